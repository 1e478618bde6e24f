import Derived.Test.YtagihpbpblnnoaaGreatD54
import Derived.Test.YtagihpbpblnnoaaGreatD53
set_option linter.all false
namespace AH
open Go Go.Proofs
def ord12 : Nat → DOrd
  | 5 => ⟨[0, 1, 0, 7, 15, 31], [(2, 1)], []⟩
  | 12 => ⟨[0, 1, 0, 7, 15, 0, 32, 0, 224, 480, 1023, 2047, 4095, 8191, 16383, 32767, 65535, 32767, 262143, 524287, 32767, 1081343, 32767, 7372799, 15761407, 33554431, 67108863, 134217727], [], []⟩
  | _ => ⟨[], [], []⟩
def ord103 : Nat → DOrd
  | 2 => ⟨[0, 1, 3, 7, 0, 16, 0, 112, 240, 0, 560, 2032, 4095, 8191], [(3, 5), (3, 10), (3, 11)], []⟩
  | _ => ⟨[], [], []⟩
def ord106 : Nat → DOrd
  | 2 => ⟨[0, 0, 3, 7, 15, 31, 63, 127, 255, 511, 511, 1535, 3583, 7679, 511, 32255, 65023, 131071, 262143, 524287], [], []⟩
  | 4 => ⟨[0, 0, 2, 6, 14, 0, 32, 96, 224, 0, 992, 2047, 4095], [], []⟩
  | _ => ⟨[], [], []⟩
end AH
namespace AH
open Go Go.Proofs Ho
set_option maxRecDepth 20000
set_option maxHeartbeats 16000000
theorem iIsG_fn (σ : AHeap) (z m : Nat) (a v : AV) (i : Int) (hz : σ.get z = some ⟨[a, v], true⟩) (hzn : z < σ.n) (hv : LenIs v m) (hm : m ≤ 1000) : Fn Tryz.prog 111 [.ptr z 0, .int .i64 i] σ fun x τ => x = .bool (decide (0 ≤ i) && decide (i ≤ (m : Int) - 1)) ∧ τ = σ := by
  refine fn_pure ord0 mixed Tryz.func111 (by kernel_rfl) rfl (by kernel_rfl) (by rfl) ?_
  simp (config := {contextual := true, maxSteps := 1000000}) (disch := first | exact dB | fail) [go_sem, envOf, wrap_i64, int_lt, -Int.not_le, -Int.not_lt, Bool.decide_and, Bool.decide_or, and_assoc, Bool.and_assoc, Bool.or_assoc, Prod.exists, Prod.forall, -List.map_set, set_put, hz]
@[go_sem] theorem iIsG_s (σ : AHeap) (z m : Nat) (a v : AV) (i : Int) (hz : σ.get z = some ⟨[a, v], true⟩) (hzn : z < σ.n) (hv : LenIs v m) (hm : m ≤ 1000) (kk_ : AV → AHeap → Prop) : @callP Tryz.prog (.fn 111 [] []) [.ptr z 0, .int .i64 i] σ ⟨kk_⟩ = @Alt (kk_ (.bool (decide (0 ≤ i) && decide (i ≤ (m : Int) - 1))) σ) ⟨@callP Tryz.prog (.fn 111 [] []) [.ptr z 0, .int .i64 i] σ ⟨kk_⟩⟩ := callP_alt (iIsG_fn σ z m a v i hz hzn hv hm)
theorem iNob_fn (σ : AHeap) (a b : AV) (cs : List AV) (ho : cs.all AV.one = true) (h26 : cs.length = 26) : Fn Tryz.prog 68 [a, .agg cs, b] σ fun x τ => x = .tup [] ∧ τ = σ := by
  refine fn_pure ord0 mixed Tryz.func68 (by kernel_rfl) rfl (by kernel_rfl) (by rfl) ?_
  simp (config := {contextual := true, maxSteps := 1000000}) (disch := first | exact dB | fail) [go_sem, envOf, wrap_i64, int_lt, -Int.not_le, -Int.not_lt, Bool.decide_and, Bool.decide_or, and_assoc, Bool.and_assoc, Bool.or_assoc, Prod.exists, Prod.forall, -List.map_set, set_put]
@[go_sem] theorem iNob_s (σ : AHeap) (a b : AV) (cs : List AV) (ho : cs.all AV.one = true) (h26 : cs.length = 26) (kk_ : AV → AHeap → Prop) : @callP Tryz.prog (.fn 68 [] []) [a, .agg cs, b] σ ⟨kk_⟩ = @Alt (kk_ (.tup []) σ) ⟨@callP Tryz.prog (.fn 68 [] []) [a, .agg cs, b] σ ⟨kk_⟩⟩ := callP_alt (iNob_fn σ a b cs ho h26)
theorem iSt0_fn (σ : AHeap) (s p l : Int) (w : AV) (gb k : Nat) (cs : List AV) (hg : σ.get gb = some ⟨cs, true⟩) (hgn : gb < σ.n) (hc : cs[k]? = some (.bool false)) : Fn Tryz.prog 88 [cV s p l, w, .ptr gb k] σ fun x τ => x = .int .i64 0 ∧ τ = σ := by
  refine fn_pure ord0 mixed Tryz.func88 (by kernel_rfl) rfl (by kernel_rfl) (by rfl) ?_
  simp (config := {contextual := true, maxSteps := 1000000}) (disch := first | exact dB | fail) [go_sem, envOf, wrap_i64, int_lt, -Int.not_le, -Int.not_lt, Bool.decide_and, Bool.decide_or, and_assoc, Bool.and_assoc, Bool.or_assoc, Prod.exists, Prod.forall, -List.map_set, set_put, hg, hc]
@[go_sem] theorem iSt0_s (σ : AHeap) (s p l : Int) (w : AV) (gb k : Nat) (cs : List AV) (hg : σ.get gb = some ⟨cs, true⟩) (hgn : gb < σ.n) (hc : cs[k]? = some (.bool false)) (kk_ : AV → AHeap → Prop) : @callP Tryz.prog (.fn 88 [] []) [cV s p l, w, .ptr gb k] σ ⟨kk_⟩ = @Alt (kk_ (.int .i64 0) σ) ⟨@callP Tryz.prog (.fn 88 [] []) [cV s p l, w, .ptr gb k] σ ⟨kk_⟩⟩ := callP_alt (iSt0_fn σ s p l w gb k cs hg hgn hc)
theorem gCells_cell0 {gs : List (Guest × AV × AV)} {i f : Nat} {x : Guest × AV × AV} (h : gs[i]? = some x) (hf : f < 26) : (gCells gs)[i * 26 + f]? = (gV x.1 x.2.1 x.2.2)[f]? := by
  have := gCells_sub h
  rw [← this, List.getElem?_take, if_pos hf, List.getElem?_drop]
theorem iOne0_fn (σ : AHeap) (z lo : Nat) (B : Int) (j gb m : Nat) (ws : List Int) (gs : List (Guest × AV × AV)) (h : WAt σ lo B j (.sl gb 0 m 26) gb ws gs) (hz : σ.get z = some ⟨[.sl j 0 ws.length 1, .sl gb 0 m 26], true⟩) (hzn : z < σ.n) (i : Nat) (g : Guest) (sv pv : AV) (hx : gs[i]? = some (g, sv, pv)) (hup : g.up = false) (h0 : gs.length = m) (h4 : σ.get gb = some ⟨gCells gs, true⟩) :
    Fn Tryz.prog 106 [.ptr z 0, .int .i64 i] σ fun x τ => x = .int .i64 0 ∧ τ = σ := by
  refine fn_pure ord106 mixed Tryz.func106 (by kernel_rfl) rfl (by kernel_rfl) (by rfl) ?_
  have hj := h.hj
  have hw := h.hw
  have hWw := h.W
  have m6 := h.m6
  have hgbn := h.gbn
  have him : i < m := by
    rcases Nat.lt_or_ge i gs.length with h' | h'
    · omega
    · rw [List.getElem?_eq_none h'] at hx; cases hx
  have him2 : (i : Int) ≤ (m : Int) - 1 := by omega
  have him3 : ¬ m ≤ i := by omega
  have hm1 : m ≤ 1000 := by omega
  have hsub := gCells_sub hx
  have hlen : i * 26 + 26 ≤ (gCells gs).length := by rw [gCells_len]; omega
  have hc0 := gCells_cell0 (f := 0) hx (by omega)
  simp only [Nat.add_zero, hup, List.getElem?_cons_zero] at hc0
  have hGA := h.G _ (List.mem_of_getElem? hx)
  have ls : LenIs sv g.snap.length := hGA.s.lenIs
  have lp : LenIs pv g.plan.length := hGA.p.lenIs
  have i1 := ls.isL
  have i2 := lp.isL
  obtain ⟨⟨r1, r2⟩, ⟨r3, r4⟩, r5, r6⟩ := check_rng ws
  generalize hC : (check ws).1 = C at *
  have hlm : LenIs (.sl gb 0 m 26) m := .inr ⟨_, _, _, rfl⟩
  by_cases hc : (check ws).2 = true
  · by_cases hg : guestP C g
    · simp (config := {contextual := true, maxSteps := 1000000}) (disch := first | exact dB | fail) [go_sem, envOf, wrap_i64, int_lt, -Int.not_le, -Int.not_lt, Bool.decide_and, Bool.decide_or, and_assoc, Bool.and_assoc, Bool.or_assoc, Prod.exists, Prod.forall, -List.map_set, set_put, ord106, hz, hc, hC, h4, hsub, hlen, him, him2, him3, hg]
      (repeat refine Alt.mk ?_)
      trace_state
    · simp (config := {contextual := true, maxSteps := 1000000}) (disch := first | exact dB | fail) [go_sem, envOf, wrap_i64, int_lt, -Int.not_le, -Int.not_lt, Bool.decide_and, Bool.decide_or, and_assoc, Bool.and_assoc, Bool.or_assoc, Prod.exists, Prod.forall, -List.map_set, set_put, ord106, hz, hc, hC, h4, hsub, hlen, him, him2, him3, hg]
      (repeat refine Alt.mk ?_)
      trace_state
  · have hc' : (check ws).2 = false := by simpa using hc
    simp (config := {contextual := true, maxSteps := 1000000}) (disch := first | exact dB | fail) [go_sem, envOf, wrap_i64, int_lt, -Int.not_le, -Int.not_lt, Bool.decide_and, Bool.decide_or, and_assoc, Bool.and_assoc, Bool.or_assoc, Prod.exists, Prod.forall, -List.map_set, set_put, ord106, hz, hc', hC, him2]
    (repeat refine Alt.mk ?_)
    trace_state
theorem iAsk0_fn (σ : AHeap) (g : Guest) (sv pv : AV) (op : AV) (k a b : Int) (hup : g.up = false) (hs : LsV .u64 σ sv g.snap) (hp : LsV .u64 σ pv g.plan) (h1 : (g.snap.length : Int) ≤ 1000000) (h2 : (g.plan.length : Int) ≤ 1000000) :
    Fn Tryz.prog 129 [.agg (gV g sv pv), .agg [.int .i64 k, .int .i64 0, .int .i64 a, .int .i64 b]] σ fun x τ => ∃ sv' pv', x = .agg (gV g sv' pv') ∧ LsV .u64 τ sv' g.snap ∧ LsV .u64 τ pv' g.plan ∧ IsL sv' ∧ IsL pv' ∧ ((σ.n ≤ bOf sv' ∧ bOf sv' < τ.n) ∨ sv' = .nils) ∧ ((σ.n ≤ bOf pv' ∧ bOf pv' < τ.n) ∨ pv' = .nils) ∧ ∀ y, y < σ.n → τ.get y = σ.get y := by
  generalize hG : (fun (x : AV) (τ : AHeap) => ∃ sv' pv', x = AV.agg (gV g sv' pv') ∧ LsV .u64 τ sv' g.snap ∧ LsV .u64 τ pv' g.plan ∧ IsL sv' ∧ IsL pv' ∧ ((σ.n ≤ bOf sv' ∧ bOf sv' < τ.n) ∨ sv' = .nils) ∧ ((σ.n ≤ bOf pv' ∧ bOf pv' < τ.n) ∨ pv' = .nils) ∧ ∀ y, y < σ.n → τ.get y = σ.get y) = GG
  have i1 := hs.isL
  have i2 := hp.isL
  refine fn_of ord0 mixed Tryz.func129 (by kernel_rfl) rfl (by kernel_rfl) ?_
  simp (config := {contextual := true, maxSteps := 1000000}) (disch := first | exact dB | fail) [go_sem, envOf, wrap_i64, int_lt, -Int.not_le, -Int.not_lt, Bool.decide_and, Bool.decide_or, and_assoc, Bool.and_assoc, Bool.or_assoc, Prod.exists, Prod.forall, -List.map_set, set_put]
  (repeat refine Alt.mk ?_)
  refine callP_gen (fun σ1 => σ1.n = σ.n + 1 + 1 + 1 ∧ (∀ y, y < σ.n → σ1.get y = σ.get y) ∧ σ1.get σ.n = some ⟨gV g sv pv, true⟩ ∧ σ1.get (σ.n + 1 + 1) = some ⟨gV Guest.zero .nils .nils, true⟩) ?_ ?_
  · exact ⟨by simp only [push_n', set_n'], by first | exact cKP | fail, by (first | exact cGT | fail), by (first | exact cGT | fail)⟩
  rintro σ1 ⟨x1, x2, x3, x4⟩
  refine callP_use (iGOwn_fn σ1 g sv pv (hs.frame (by omega) x2) (hp.frame (by omega) x2) h1 h2) ?_
  rintro x τ hn ⟨sv', pv', rfl, a1, a2, o1, o2, a3, a4, a5⟩
  have y3 := (a5 _ (by omega)).trans x3
  have y4 := (a5 _ (by omega)).trans x4
  simp (config := {contextual := true, maxSteps := 1000000}) (disch := first | exact dB | fail) [go_sem, envOf, wrap_i64, int_lt, -Int.not_le, -Int.not_lt, Bool.decide_and, Bool.decide_or, and_assoc, Bool.and_assoc, Bool.or_assoc, Prod.exists, Prod.forall, -List.map_set, set_put, y3, y4, hup]
  (repeat refine Alt.mk ?_)
  rw [← hG]
  have e1 : ∀ y, y < σ1.n → bOf sv' ≠ y ∨ sv' = .nils := fun y hy => a3.elim (fun h => .inl (by omega)) .inr
  have e2 : ∀ y, y < σ1.n → bOf pv' ≠ y ∨ pv' = .nils := fun y hy => a4.elim (fun h => .inl (by omega)) .inr
  refine ⟨sv', pv', by simp only [gV, hup], ?_, ?_, o1, o2, a3.elim (fun h => .inl ?_) .inr, a4.elim (fun h => .inl ?_) .inr, fun y hy => ?_⟩
  · first | exact (a1.set (e1 _ (by omega))).push | exact (a1.push).set (e1 _ (by omega))
  · first | exact (a2.set (e2 _ (by omega))).push | exact (a2.push).set (e2 _ (by omega))
  · simp only [set_n', push_n']; omega
  · simp only [set_n', push_n']; omega
  · rw [← x2 y hy, ← a5 y (by omega)]
    (first | exact cGT | fail)
theorem iDo0_fn (σ : AHeap) (z lo : Nat) (B : Int) (j gb m : Nat) (ws : List Int) (gs : List (Guest × AV × AV)) (h : WAt σ lo B j (.sl gb 0 m 26) gb ws gs) (hz : σ.get z = some ⟨[.sl j 0 ws.length 1, .sl gb 0 m 26], true⟩) (hzn : z < σ.n) (hlz : z ≠ j ∧ z ≠ gb) (haz : Apt z gs) (i : Nat) (g : Guest) (sv pv : AV) (hx : gs[i]? = some (g, sv, pv)) (hup : g.up = false) (h0 : gs.length = m) (h4 : σ.get gb = some ⟨gCells gs, true⟩) (e : Ev) (he : e.kind = 3 ∨ e.kind = 4) (hw : e.who = i) :
    Fn Tryz.prog 67 [.ptr z 0, .agg (evV e), .fn 68 [] []] σ fun x τ => ∃ gs', gs'.map (·.1) = gs.map (·.1) ∧ WAt τ lo B j (.sl gb 0 m 26) gb ws gs' ∧ τ.get z = some ⟨[.sl j 0 ws.length 1, .sl gb 0 m 26], true⟩ ∧ Apt z gs' ∧ (∀ y, y < σ.n → NE y gb → τ.get y = σ.get y) := by
  generalize hG : (fun (x : AV) (τ : AHeap) => ∃ gs', gs'.map (·.1) = gs.map (·.1) ∧ WAt τ lo B j (.sl gb 0 m 26) gb ws gs' ∧ τ.get z = some ⟨[.sl j 0 ws.length 1, .sl gb 0 m 26], true⟩ ∧ Apt z gs' ∧ (∀ y, y < σ.n → NE y gb → τ.get y = σ.get y)) = GG
  have hgbn := h.gbn
  have m6 := h.m6
  have him : i < m := by
    rcases Nat.lt_or_ge i gs.length with h' | h'
    · omega
    · rw [List.getElem?_eq_none h'] at hx; cases hx
  have him2 : (i : Int) ≤ (m : Int) - 1 := by omega
  have him3 : ¬ m ≤ i := by omega
  have hm1 : m ≤ 1000 := by omega
  have hsub := gCells_sub hx
  have hlen : i * 26 + 26 ≤ (gCells gs).length := by rw [gCells_len]; omega
  have hGA := h.G _ (List.mem_of_getElem? hx)
  have ls : LsV .u64 σ sv g.snap := hGA.s
  have lp : LsV .u64 σ pv g.plan := hGA.p
  have i1 := ls.isL
  have i2 := lp.isL
  have hlm : LenIs (.sl gb 0 m 26) m := .inr ⟨_, _, _, rfl⟩
  refine fn_of ord67 mixed Tryz.func67 (by kernel_rfl) rfl (by kernel_rfl) ?_
  rcases he with he | he
  · simp (config := {contextual := true, maxSteps := 1000000}) (disch := first | exact dB | fail) [go_sem, envOf, wrap_i64, int_lt, -Int.not_le, -Int.not_lt, Bool.decide_and, Bool.decide_or, and_assoc, Bool.and_assoc, Bool.or_assoc, Prod.exists, Prod.forall, -List.map_set, set_put, ord67, hz, he, hw, him, him2, him3, h4, hsub, hlen]
    (repeat refine Alt.mk ?_)
    refine callP_gen (fun σ1 => σ1.n = σ.n + 1 ∧ (∀ y, y < σ.n → σ1.get y = σ.get y) ∧ σ1.get σ.n = some ⟨evV e, true⟩) ?_ ?_
    · exact ⟨by simp only [push_n'], fun y hy => push_get_lt hy, by (first | exact cGT | fail)⟩
    rintro σ1 ⟨x1, x2, x3⟩
    refine callP_use (iAsk0_fn σ1 g sv pv .nils e.op e.a e.b hup (ls.frame (by omega) x2) (lp.frame (by omega) x2) (by have := hGA.gi.snap; have := h.B; dsimp only at *; omega) (by have := hGA.gi.plan; dsimp only at *; omega)) ?_
    rintro x τ hn ⟨sv', pv', rfl, a1, a2, o1, o2, a3, a4, a5⟩
    have f1 : ∀ y, y < σ.n → τ.get y = σ.get y := fun y hy => (a5 y (by omega)).trans (x2 y hy)
    have y4 := (f1 gb hgbn).trans h4
    have hput := gCells_put (gs := gs) (i := i) (by omega) g sv' pv'
    simp (config := {contextual := true, maxSteps := 1000000}) (disch := first | exact dB | fail) [go_sem, envOf, wrap_i64, int_lt, -Int.not_le, -Int.not_lt, Bool.decide_and, Bool.decide_or, and_assoc, Bool.and_assoc, Bool.or_assoc, Prod.exists, Prod.forall, -List.map_set, set_put, ord67, y4, hput, him, him3]
    (repeat refine Alt.mk ?_)
    refine ⟨(f1 z hzn).symm, ((a5 _ (by omega)).trans x3).symm, ?_⟩
    rw [← hG]
    have hgj : gb ≠ j := by
      cases h.hv with
      | some q0 q1 q2 q3 q4 => exact q3.ne
    have n1 : NV σ.n (τ.set gb ⟨gCells (gs.set i (g, sv', pv')), true⟩) sv sv' g.snap g.snap := .inr ⟨a1.set (a3.elim (fun h => .inl (by omega)) .inr), a3.elim (fun h => .inl (by omega)) .inr⟩
    have n2 : NV σ.n (τ.set gb ⟨gCells (gs.set i (g, sv', pv')), true⟩) pv pv' g.plan g.plan := .inr ⟨a2.set (a4.elim (fun h => .inl (by omega)) .inr), a4.elim (fun h => .inl (by omega)) .inr⟩
    have hff : ∀ y, y < σ.n → NE y gb → (τ.set gb ⟨gCells (gs.set i (g, sv', pv')), true⟩).get y = σ.get y := fun y y1 y2 => (set_get_ne y2.ne).trans (f1 y y1)
    refine ⟨gs.set i (g, sv', pv'), ?_, h.put (by omega) (by simp only [set_n']; omega) ((hff j h.hj (Ne.symm hgj)).trans h.hw) (get_set_same _ _) (fun y y1 _ y3 => hff y y1 y3) h.W rfl (GA.nv hGA h.hj hgbn h.lj (by simp only [set_n']; omega) (fun y y1 _ y3 => hff y y1 y3) hGA.gi hGA.idl n1 n2) (Int.le_refl _) h.B, (hff z hzn hlz.2).trans hz, Apt.put haz hx hzn n1 n2, hff⟩
    rw [List.map_set]
    have hgi : (gs.map (·.1))[i]? = some g := by simp [hx]
    apply List.ext_getElem?
    intro k
    rw [List.getElem?_set]
    split
    · rename_i hik
      subst hik
      rw [hgi, if_pos (by simp; omega)]
    · rfl
  · have hN : 0 ≤ min (max 0 e.n) 400 ∧ min (max 0 e.n) 400 ≤ 400 := by omega
    simp (config := {contextual := true, maxSteps := 1000000}) (disch := first | exact dB | fail) [go_sem, envOf, wrap_i64, int_lt, -Int.not_le, -Int.not_lt, Bool.decide_and, Bool.decide_or, and_assoc, Bool.and_assoc, Bool.or_assoc, Prod.exists, Prod.forall, -List.map_set, set_put, ord67, hz, he, hw, him, him2, him3, h4, hsub, hlen]
    (repeat refine Alt.mk ?_)
    generalize min (max 0 e.n) 400 = N at hN ⊢
    refine aloops_lt (fun R_ env τ => ∃ (u : Nat), env 0 = .ptr z 0 ∧ env 2 = .fn 68 [] [] ∧ env 4 = .ptr σ.n 0 ∧ env 96 = .int .i64 N ∧ env 97 = .int .i64 u ∧ R_ ((N - u).toNat) ∧ (∀ y, y < σ.n → τ.get y = σ.get y) ∧ (τ.get σ.n = some ⟨evV e, true⟩) ∧ (σ.n + 1 ≤ τ.n) ∧ ((u : Int) ≤ N)) (by rintro R_ env τ ⟨u, e0, e2, e4, e96, e97, hR_, hk, hE, hn, uN⟩; exact ⟨_, hR_, u, e0, e2, e4, e96, e97, rfl, hk, hE, hn, uN⟩) ⟨0, by first | rfl | simp [put_get, *], by first | rfl | simp [put_get, *], by first | rfl | simp [put_get, *], by first | rfl | simp [put_get, *], by first | rfl | simp [put_get, *], trivial, ?_, ?_, ?_, ?_⟩ ?_
    rotate_left 4
    rintro m_ env τ ⟨u, e0, e2, e4, e96, e97, rfl, hk, hE, hn, uN⟩
    · by_cases hu : (u : Int) < N
      · have hz1 := (hk z hzn).trans hz
        have h41 := (hk gb hgbn).trans h4
        simp (config := {contextual := true, maxSteps := 1000000}) (disch := first | exact dB | fail) [go_sem, envOf, wrap_i64, int_lt, -Int.not_le, -Int.not_lt, Bool.decide_and, Bool.decide_or, and_assoc, Bool.and_assoc, Bool.or_assoc, Prod.exists, Prod.forall, -List.map_set, set_put, ord67, e0, e2, e4, e96, e97, hE, hz1, h41, hw, him, him3, hsub, hlen, hu]
        (repeat refine Alt.mk ?_)
        refine callP_gen (fun σ5 => σ5.n = τ.n + 1 ∧ (∀ y, y < τ.n → σ5.get y = τ.get y) ∧ σ5.get τ.n = some ⟨gV g sv pv, true⟩) ?_ ?_
        · exact ⟨by simp only [push_n'], fun y hy => push_get_lt hy, by (first | exact cGT | fail)⟩
        rintro σ5 ⟨m1, m2, m3⟩
        have hk5 : ∀ y, y < σ.n → σ5.get y = σ.get y := fun y hy => (m2 y (by omega)).trans (hk y hy)
        have hE5 := (m2 _ (by omega)).trans hE
        refine callP_use (iOne0_fn σ5 z lo B j gb m ws gs (h.frame (by omega) hk5) ((hk5 z hzn).trans hz) (by omega) i g sv pv hx hup h0 ((hk5 gb hgbn).trans h4)) ?_
        rintro x τ6 hn6 ⟨rfl, rfl⟩
        have hall : (gV g sv pv).all AV.one = true := by
          have p1 := one_isL i1
          have p2 := one_isL i2
          unfold AV.one at p1 p2
          simp [AV.one]
          exact ⟨p1, p2⟩
        simp (config := {contextual := true, maxSteps := 1000000}) (disch := first | exact dB | fail) [go_sem, envOf, wrap_i64, int_lt, -Int.not_le, -Int.not_lt, Bool.decide_and, Bool.decide_or, and_assoc, Bool.and_assoc, Bool.or_assoc, Prod.exists, Prod.forall, -List.map_set, set_put, ord67, e0, e2, e4, e96, e97, hE5, m3, hw, hu]
        (repeat refine Alt.mk ?_)
        exact ⟨hE, u + 1, by omega, by omega, hk5, by omega, by omega⟩
      · simp (config := {contextual := true, maxSteps := 1000000}) (disch := first | exact dB | fail) [go_sem, envOf, wrap_i64, int_lt, -Int.not_le, -Int.not_lt, Bool.decide_and, Bool.decide_or, and_assoc, Bool.and_assoc, Bool.or_assoc, Prod.exists, Prod.forall, -List.map_set, set_put, ord67, e0, e2, e4, e96, e97, hu]
        (repeat refine Alt.mk ?_)
        rw [← hG]
        exact ⟨gs, rfl, h.frame (by omega) hk, (hk z hzn).trans hz, haz, fun y hy _ => hk y hy⟩
    · intro y hy; exact push_get_lt hy
    · (first | exact cGT | fail)
    · simp only [push_n']; omega
    · omega
end AH
/- CONTRACTS OF THE PROGRAM: one dies; the clock goes on; a world where that happened. -/
namespace AH
open Go Go.Proofs Ho
set_option maxRecDepth 20000
set_option maxHeartbeats 16000000
/-- What an event leaves of a world in a cell. -/
def DoP (σ : AHeap) (z lo : Nat) (B : Int) (j gb : Nat) (R : List Int × List Guest) (τ : AHeap) : Prop :=
  ∃ v' gb' ws' gs', (ws', gs'.map (·.1)) = R ∧ WAt τ lo B j v' gb' ws' gs' ∧ τ.get z = some ⟨[.sl j 0 ws'.length 1, v'], true⟩ ∧ (∀ y, y < σ.n → NE y z → NE y j → NE y gb → τ.get y = σ.get y)
theorem GI.dead {B : Int} {g : Guest} (h : GI B g) : GI B { g with up := false } := by
  obtain ⟨d1, d2, d3, d4, d5, d6, d7, d8, d9, d10, d11, d12, d13, d14, d15, d16, d17, d18, d19, d20, d21, d22, d23, d24⟩ := h
  exact ⟨d1, d2, d3, d4, d5, d6, d7, d8, d9, d10, d11, d12, d13, d14, d15, d16, d17, d18, d19, d20, d21, d22, d23, d24⟩
theorem iDies_fn (σ : AHeap) (z lo : Nat) (B : Int) (j gb m : Nat) (ws : List Int) (gs : List (Guest × AV × AV)) (h : WAt σ lo B j (.sl gb 0 m 26) gb ws gs) (hz : σ.get z = some ⟨[.sl j 0 ws.length 1, .sl gb 0 m 26], true⟩) (hzn : z < σ.n) (hlz : z ≠ j ∧ z ≠ gb) (haz : Apt z gs) (i : Nat) (g : Guest) (sv pv : AV) (hx : gs[i]? = some (g, sv, pv)) (h0 : gs.length = m) (h4 : σ.get gb = some ⟨gCells gs, true⟩) (e : Ev) (he : e.kind = 2) (hw : e.who = i) :
    Fn Tryz.prog 67 [.ptr z 0, .agg (evV e), .fn 68 [] []] σ fun x τ => DoP σ z lo B j gb (ws, (gs.map (·.1)).set i { g with up := false }) τ := by
  generalize hG : (fun (x : AV) (τ : AHeap) => DoP σ z lo B j gb (ws, (gs.map (·.1)).set i { g with up := false }) τ) = GG
  have hgbn := h.gbn
  have m6 := h.m6
  have him : i < m := by
    rcases Nat.lt_or_ge i gs.length with h' | h'
    · omega
    · rw [List.getElem?_eq_none h'] at hx; cases hx
  have him2 : (i : Int) ≤ (m : Int) - 1 := by omega
  have him3 : ¬ m ≤ i := by omega
  have hm1 : m ≤ 1000 := by omega
  have hlen : i * 26 + 26 ≤ (gCells gs).length := by rw [gCells_len]; omega
  have hGA := h.G _ (List.mem_of_getElem? hx)
  have hlm : LenIs (.sl gb 0 m 26) m := .inr ⟨_, _, _, rfl⟩
  have hgj : gb ≠ j := by
    cases h.hv with
    | some q0 q1 q2 q3 q4 => exact q3.ne
  have nz : ¬ gb = σ.n := by omega
  have hc := gCells_cell (f := 0) hx (by omega) (.bool false) { g with up := false } rfl
  simp only [Nat.add_zero] at hc
  refine fn_of ord67 mixed Tryz.func67 (by kernel_rfl) rfl (by kernel_rfl) ?_
  simp (config := {contextual := true, maxSteps := 1000000}) (disch := first | exact dB | fail) [go_sem, envOf, wrap_i64, int_lt, -Int.not_le, -Int.not_lt, Bool.decide_and, Bool.decide_or, and_assoc, Bool.and_assoc, Bool.or_assoc, Prod.exists, Prod.forall, -List.map_set, set_put, ord67, hz, he, hw, him, him2, him3, h4, hlen, hc]
  (repeat refine Alt.mk ?_)
  rw [← hG]
  have hf : ∀ (C : ABlk) (y : Nat), y < σ.n → NE y gb → ((σ.set gb ⟨gCells (gs.set i ({ g with up := false }, sv, pv)), true⟩).push C).get y = σ.get y := fun C y y1 y2 => by rw [push_get_lt (by simp only [set_n']; exact y1), set_get_ne y2.ne]
  have hW := h.put (τ := (σ.set gb ⟨gCells (gs.set i ({ g with up := false }, sv, pv)), true⟩).push ⟨evV e, true⟩) (i := i) (x' := ({ g with up := false }, sv, pv)) (by omega) (by simp only [set_n', push_n']; omega) ((hf _ j h.hj (Ne.symm hgj)).trans h.hw) (by (first | exact cGT | fail)) (fun y y1 _ y3 => hf _ y y1 y3) h.W rfl (GA.nv hGA h.hj hgbn h.lj (by simp only [set_n', push_n']; omega) (fun y y1 _ y3 => hf _ y y1 y3) (g' := { g with up := false }) (GI.dead hGA.gi) hGA.idl (.inl ⟨rfl, rfl⟩) (.inl ⟨rfl, rfl⟩)) (Int.le_refl _) h.B
  exact ⟨_, gb, ws, gs.set i ({ g with up := false }, sv, pv), by rw [List.map_set], hW, (hf _ z hzn hlz.2).trans hz, fun y y1 _ _ y4 => hf _ y y1 y4⟩
theorem iTick_fn (σ : AHeap) (z j : Nat) (v : AV) (n : Int) (ws : List Int) (hz : σ.get z = some ⟨[.sl j 0 ws.length 1, v], true⟩) (hzn : z < σ.n) (hj : j < σ.n) (hw : σ.get j = some ⟨ws.map (.int .u64), true⟩) (hW : ∀ w ∈ ws, isW w) (hl : 2 ≤ ws.length) (hl2 : (ws.length : Int) ≤ 1000000) (hzj : z ≠ j) (iv : IsL v) :
    Fn Tryz.prog 103 [.ptr z 0, .int .i64 n] σ fun x τ => τ.get j = some ⟨(tickW ws n).map (.int .u64), true⟩ ∧ (∀ y, y < σ.n → NE y j → τ.get y = σ.get y) := by
  generalize hG : (fun (x : AV) (τ : AHeap) => τ.get j = some ⟨(tickW ws n).map (.int .u64), true⟩ ∧ (∀ y, y < σ.n → NE y j → τ.get y = σ.get y)) = GG
  have hv := lsv_at hj hw rfl
  have hcv := cval_range (w := at_ ws 1)
  have hA := at_isW hW 1
  have h1 : 1 < (ws.length : Int) := by omega
  refine fn_of ord103 mixed Tryz.func103 (by kernel_rfl) rfl (by kernel_rfl) ?_
  by_cases c1 : 0 ≤ n
  · by_cases c2 : n ≤ 1000
    · have hp := map_put (kk := .u64) (ws := ws) (a := 1) (x := pack (min (cval (at_ ws 1) + n) 1048575) (cstamp (at_ ws 1))) (by omega) (by omega)
      simp (config := {contextual := true, maxSteps := 1000000}) (disch := first | exact dB | fail) [go_sem, envOf, wrap_i64, int_lt, -Int.not_le, -Int.not_lt, Bool.decide_and, Bool.decide_or, and_assoc, Bool.and_assoc, Bool.or_assoc, Prod.exists, Prod.forall, -List.map_set, set_put, ord103, hz, c1, c2, h1]
      (repeat refine Alt.mk ?_)
      rw [← hG]
      have ht : tickW ws n = put ws 1 (pack (min (cval (at_ ws 1) + n) 1048575) (cstamp (at_ ws 1))) := by
        unfold tickW
        rw [if_neg (by omega)]
        congr 2
        unfold clamp
        omega
      rw [ht]
      exact ⟨get_set_same _ _, fun y y1 y2 => set_get_ne y2.ne⟩
    · simp (config := {contextual := true, maxSteps := 1000000}) (disch := first | exact dB | fail) [go_sem, envOf, wrap_i64, int_lt, -Int.not_le, -Int.not_lt, Bool.decide_and, Bool.decide_or, and_assoc, Bool.and_assoc, Bool.or_assoc, Prod.exists, Prod.forall, -List.map_set, set_put, ord103, hz, c1, c2]
      (repeat refine Alt.mk ?_)
      rw [← hG]
      have ht : tickW ws n = ws := by unfold tickW; rw [if_pos (by omega)]
      rw [ht]
      exact ⟨hw, fun y y1 y2 => rfl⟩
  · simp (config := {contextual := true, maxSteps := 1000000}) (disch := first | exact dB | fail) [go_sem, envOf, wrap_i64, int_lt, -Int.not_le, -Int.not_lt, Bool.decide_and, Bool.decide_or, and_assoc, Bool.and_assoc, Bool.or_assoc, Prod.exists, Prod.forall, -List.map_set, set_put, ord103, hz, c1]
    (repeat refine Alt.mk ?_)
    rw [← hG]
    have ht : tickW ws n = ws := by unfold tickW; rw [if_pos (by omega)]
    rw [ht]
    exact ⟨hw, fun y y1 y2 => rfl⟩
theorem iTicks_fn (σ : AHeap) (z lo : Nat) (B : Int) (j : Nat) (v : AV) (gb : Nat) (ws : List Int) (gs : List (Guest × AV × AV)) (h : WAt σ lo B j v gb ws gs) (hz : σ.get z = some ⟨[.sl j 0 ws.length 1, v], true⟩) (hzn : z < σ.n) (hlz : z ≠ j ∧ z ≠ gb) (haz : Apt z gs) (e : Ev) (he : e.kind = 5) (hn : 0 ≤ e.n ∧ e.n ≤ 1000) :
    Fn Tryz.prog 67 [.ptr z 0, .agg (evV e), .fn 68 [] []] σ fun x τ => DoP σ z lo B j gb (tickW ws e.n, gs.map (·.1)) τ := by
  generalize hG : (fun (x : AV) (τ : AHeap) => DoP σ z lo B j gb (tickW ws e.n, gs.map (·.1)) τ) = GG
  have iv := h.isL
  have hj := h.hj
  have hgbn := h.gbn
  have hw := h.hw
  refine fn_of ord67 mixed Tryz.func67 (by kernel_rfl) rfl (by kernel_rfl) ?_
  simp (config := {contextual := true, maxSteps := 1000000}) (disch := first | exact dB | fail) [go_sem, envOf, wrap_i64, int_lt, -Int.not_le, -Int.not_lt, Bool.decide_and, Bool.decide_or, and_assoc, Bool.and_assoc, Bool.or_assoc, Prod.exists, Prod.forall, -List.map_set, set_put, ord67, hz, he]
  (repeat refine Alt.mk ?_)
  have hf : ∀ (C : ABlk) (y : Nat), y < σ.n → (σ.push C).get y = σ.get y := fun C y y1 => push_get_lt y1
  refine callP_use (iTick_fn (σ.push ⟨evV e, true⟩) z j v e.n ws ((hf _ z hzn).trans hz) (by simp only [push_n']; omega) (by simp only [push_n']; omega) ((hf _ j hj).trans hw) h.W h.l2 h.len hlz.1 iv) ?_
  rintro x τ hn2 ⟨a1, a2⟩
  simp only [push_n'] at hn2 a2
  simp (config := {contextual := true, maxSteps := 1000000}) (disch := first | exact dB | fail) [go_sem, envOf, wrap_i64, int_lt, -Int.not_le, -Int.not_lt, Bool.decide_and, Bool.decide_or, and_assoc, Bool.and_assoc, Bool.or_assoc, Prod.exists, Prod.forall, -List.map_set, set_put, ord67]
  (repeat refine Alt.mk ?_)
  rw [← hG]
  have hff : ∀ y, y < σ.n → NE y j → τ.get y = σ.get y := fun y y1 y2 => (a2 y (by omega) y2).trans (hf _ y y1)
  have hzz := (hff z hzn hlz.1).trans hz
  exact ⟨v, gb, tickW ws e.n, gs, rfl, h.words (by omega) a1 hff (tickW_isW h.W _) (tickW_len _ _), by rw [tickW_len]; exact hzz, fun y y1 _ y3 _ => hff y y1 y3⟩
/-- WorldDo of an event of which the program's own step is known. -/
theorem iWDoG_fn (σ : AHeap) (lo : Nat) (B : Int) (j : Nat) (v : AV) (gb : Nat) (ws : List Int) (gs : List (Guest × AV × AV)) (h : WAt σ lo B j v gb ws gs) (hP : worldP ws (gs.map (·.1))) (e : Ev) (R : List Int × List Guest)
    (hdo : ∀ (σ : AHeap) (z lo j : Nat) (v : AV) (gb : Nat) (gs' : List (Guest × AV × AV)), gs'.map (·.1) = gs.map (·.1) → WAt σ lo B j v gb ws gs' → σ.get z = some ⟨[.sl j 0 ws.length 1, v], true⟩ → z < σ.n → z ≠ j ∧ z ≠ gb → Apt z gs' → Fn Tryz.prog 67 [.ptr z 0, .agg (evV e), .fn 68 [] []] σ fun x τ => DoP σ z lo B j gb R τ) :
    Fn Tryz.prog 18 [.agg [.sl j 0 ws.length 1, v], .agg (evV e)] σ fun x τ => (∀ y, y < σ.n → τ.get y = σ.get y) ∧ ∃ q v' gb' ws' gs', x = .agg [.sl q 0 ws'.length 1, v'] ∧ (ws', gs'.map (·.1)) = R ∧ WAt τ σ.n B q v' gb' ws' gs' := by
  generalize hG : (fun (x : AV) (τ : AHeap) => (∀ y, y < σ.n → τ.get y = σ.get y) ∧ ∃ q v' gb' ws' gs', x = AV.agg [.sl q 0 ws'.length 1, v'] ∧ (ws', gs'.map (·.1)) = R ∧ WAt τ σ.n B q v' gb' ws' gs') = GG
  have iv := h.isL
  refine fn_of ord0 mixed Tryz.func18 (by kernel_rfl) rfl (by kernel_rfl) ?_
  simp (config := {contextual := true, maxSteps := 1000000}) (disch := first | exact dB | fail) [go_sem, envOf, wrap_i64, int_lt, -Int.not_le, -Int.not_lt, Bool.decide_and, Bool.decide_or, and_assoc, Bool.and_assoc, Bool.or_assoc, Prod.exists, Prod.forall, -List.map_set, set_put]
  (repeat refine Alt.mk ?_)
  refine callP_gen (fun σ1 => σ1.n = σ.n + 1 + 1 + 1 ∧ (∀ y, y < σ.n → σ1.get y = σ.get y) ∧ σ1.get σ.n = some ⟨[.sl j 0 ws.length 1, v], true⟩ ∧ σ1.get (σ.n + 1) = some ⟨evV e, true⟩ ∧ σ1.get (σ.n + 1 + 1) = some ⟨[.nils, .nils], true⟩) ?_ ?_
  · exact ⟨by simp only [push_n', set_n'], by first | exact cKP | fail, by (first | exact cGT | fail), by (first | exact cGT | fail), by (first | exact cGT | fail)⟩
  rintro σ1 ⟨x1, x2, x3, x4, x5⟩
  have W1 := h.frame (τ := σ1) (by omega) x2
  refine callP_use (iWOk_fn σ1 lo B j v gb ws gs W1.weak) ?_
  rintro x τ hn ⟨rfl, rfl⟩
  rw [decide_eq_true hP]
  simp (config := {contextual := true, maxSteps := 1000000}) (disch := first | exact dB | fail) [go_sem, envOf, wrap_i64, int_lt, -Int.not_le, -Int.not_lt, Bool.decide_and, Bool.decide_or, and_assoc, Bool.and_assoc, Bool.or_assoc, Prod.exists, Prod.forall, -List.map_set, set_put, x3, x4, x5]
  (repeat refine Alt.mk ?_)
  refine callP_use (iOwn_fn τ lo B j v gb ws gs W1) ?_
  rintro x τ2 hn2 ⟨q, v', q', gs', rfl, a1, a2, a3⟩
  have iv' := a2.isL
  have y4 := (a3 _ (by omega)).trans x4
  have y5 := (a3 _ (by omega)).trans x5
  simp (config := {contextual := true, maxSteps := 1000000}) (disch := first | exact dB | fail) [go_sem, envOf, wrap_i64, int_lt, -Int.not_le, -Int.not_lt, Bool.decide_and, Bool.decide_or, and_assoc, Bool.and_assoc, Bool.or_assoc, Prod.exists, Prod.forall, -List.map_set, set_put, y4, y5]
  (repeat refine Alt.mk ?_)
  have hq1 := a2.hj
  have hq2 := a2.gbn
  have hq3 := a2.lj
  have hq4 := a2.lg
  refine callP_gen (fun σ3 => σ3.n = τ2.n + 1 ∧ (∀ y, y < τ2.n → σ3.get y = τ2.get y) ∧ σ3.get τ2.n = some ⟨[.sl q 0 ws.length 1, v'], true⟩) ?_ ?_
  · exact ⟨by simp only [push_n'], fun y hy => push_get_lt hy, by (first | exact cGT | fail)⟩
  rintro σ3 ⟨m1, m2, m3⟩
  have W3 := a2.frame (τ := σ3) (by omega) m2
  refine callP_use (hdo σ3 τ2.n τ.n q v' q' gs' a1 W3 m3 (by omega) ⟨by omega, by omega⟩ (a2.apt (Nat.le_refl _))) ?_
  rintro x τ4 hn4 ⟨v2, gb2, ws2, gs2, b1, b2, b3, b4⟩
  have iv2 := b2.isL
  have z5 : τ4.get (σ.n + 1 + 1) = some ⟨[.nils, .nils], true⟩ := (b4 _ (by omega) (by simp only [NE]; omega) (by simp only [NE]; omega) (by simp only [NE]; omega)).trans ((m2 _ (by omega)).trans y5)
  simp (config := {contextual := true, maxSteps := 1000000}) (disch := first | exact dB | fail) [go_sem, envOf, wrap_i64, int_lt, -Int.not_le, -Int.not_lt, Bool.decide_and, Bool.decide_or, and_assoc, Bool.and_assoc, Bool.or_assoc, Prod.exists, Prod.forall, -List.map_set, set_put, b3]
  (repeat refine Alt.mk ?_)
  refine callP_use (iOwn_fn τ4 τ.n B q v2 gb2 ws2 gs2 b2) ?_
  rintro x τ5 hn5 ⟨q3, v3, gb3, gs3, rfl, c1, c2, c3⟩
  have iv3 := c2.isL
  have w5 := (c3 _ (by omega)).trans z5
  simp (config := {contextual := true, maxSteps := 1000000}) (disch := first | exact dB | fail) [go_sem, envOf, wrap_i64, int_lt, -Int.not_le, -Int.not_lt, Bool.decide_and, Bool.decide_or, and_assoc, Bool.and_assoc, Bool.or_assoc, Prod.exists, Prod.forall, -List.map_set, set_put, w5]
  (repeat refine Alt.mk ?_)
  rw [← hG]
  refine ⟨fun y hy => ?_, q3, v3, gb3, ws2, gs3, rfl, by rw [c1, b1], ?_⟩
  · rw [set_get_ne (by omega), c3 y (by omega), b4 y (by omega) (by simp only [NE]; omega) (by simp only [NE]; omega) (by simp only [NE]; omega), m2 y (by omega), a3 y (by omega), x2 y hy]
  · exact (c2.past (z := σ.n + 1 + 1) (by omega) (by simp only [set_n']; omega) (fun y q1 q2 => set_get_ne q2.ne)).low (by omega)
end AH
/- CONTRACTS OF THE PROGRAM: a history in which a dead one is asked and steps. -/
namespace AH
open Go Go.Proofs Ho
set_option maxRecDepth 20000
set_option maxHeartbeats 16000000
theorem eCells_sub {evs : List Ev} {u : Nat} {e : Ev} (h : evs[u]? = some e) : ((eCells evs).drop (u * 6)).take 6 = evV e := by
  induction evs generalizing u with
  | nil => simp at h
  | cons x l ih =>
    cases u with
    | zero =>
      simp only [List.getElem?_cons_zero, Option.some.injEq] at h
      subst h
      rfl
    | succ u =>
      simp only [List.getElem?_cons_succ] at h
      have : (u + 1) * 6 = 6 + u * 6 := by omega
      rw [this, ← List.drop_drop]
      exact ih h
structure PL0 (σ : AHeap) (z q m : Nat) (B : Int) (ws : List Int) (gs : List (Guest × AV × AV)) (b : Nat) (gs' : List (Guest × AV × AV)) (τ : AHeap) : Prop where
  W : WAt τ (σ.n + 1 + 1) B q (.sl b 0 m 26) b ws gs'
  mp : gs'.map (·.1) = gs.map (·.1)
  gz : τ.get z = some ⟨[.sl q 0 ws.length 1, .sl b 0 m 26], true⟩
  zn : z < τ.n
  zq : z ≠ q ∧ z ≠ b
  az : Apt z gs'
  fr : ∀ y, y < σ.n → τ.get y = σ.get y
  g4 : τ.get (σ.n + 1) = some ⟨[.nils, .nils], true⟩
  lz : σ.n + 1 < z
theorem GB.four {τ : AHeap} {j gb m : Nat} {gs : List (Guest × AV × AV)} (h : GB τ j (.sl gb 0 m 26) gb gs) : gs.length = m ∧ τ.get gb = Option.some ⟨gCells gs, true⟩ := by
  cases h with
  | some h0 h1 h2 h3 h4 => exact ⟨h0, h4⟩
theorem iPlay0_fn (σ : AHeap) (lo : Nat) (B : Int) (j gb m : Nat) (ws : List Int) (gs : List (Guest × AV × AV)) (h : WAt σ lo B j (.sl gb 0 m 26) gb ws gs) (hP : worldP ws (gs.map (·.1))) (i : Nat) (g : Guest) (hx : (gs.map (·.1))[i]? = some g) (hup : g.up = false) (eb n : Nat) (evs : List Ev) (he : σ.get eb = some ⟨eCells evs, true⟩) (hen : eb < σ.n) (hl : evs.length = n) (hn : n ≤ 1000) (hev : ∀ e ∈ evs, (e.kind = 3 ∨ e.kind = 4) ∧ e.who = i) :
    Fn Tryz.prog 23 [.agg [.sl j 0 ws.length 1, .sl gb 0 m 26], .sl eb 0 n 6] σ fun x τ => (∀ y, y < σ.n → τ.get y = σ.get y) ∧ ∃ q v' gb' gs', x = .agg [.sl q 0 ws.length 1, v'] ∧ gs'.map (·.1) = gs.map (·.1) ∧ WAt τ σ.n B q v' gb' ws gs' := by
  generalize hG : (fun (x : AV) (τ : AHeap) => (∀ y, y < σ.n → τ.get y = σ.get y) ∧ ∃ q v' gb' gs', x = AV.agg [.sl q 0 ws.length 1, v'] ∧ gs'.map (·.1) = gs.map (·.1) ∧ WAt τ σ.n B q v' gb' ws gs') = GG
  have him : i < gs.length := by
    rcases Nat.lt_or_ge i gs.length with h' | h'
    · exact h'
    · rw [List.getElem?_eq_none (by simpa using h')] at hx; cases hx
  have hn2 : (n : Int) ≤ 1000 := by omega
  have ie : IsL (.sl eb 0 n 6) := isL_sl _ _ _ _
  have le : LenIs (.sl eb 0 n 6) n := .inr ⟨_, _, _, rfl⟩
  refine fn_of ord0 mixed Tryz.func23 (by kernel_rfl) rfl (by kernel_rfl) ?_
  simp (config := {contextual := true, maxSteps := 1000000}) (disch := first | exact dB | fail) [go_sem, envOf, wrap_i64, int_lt, -Int.not_le, -Int.not_lt, Bool.decide_and, Bool.decide_or, and_assoc, Bool.and_assoc, Bool.or_assoc, Prod.exists, Prod.forall, -List.map_set, set_put]
  (repeat refine Alt.mk ?_)
  refine callP_gen (fun σ1 => σ1.n = σ.n + 1 + 1 ∧ (∀ y, y < σ.n → σ1.get y = σ.get y) ∧ σ1.get σ.n = some ⟨[.sl j 0 ws.length 1, .sl gb 0 m 26], true⟩ ∧ σ1.get (σ.n + 1) = some ⟨[.nils, .nils], true⟩) ?_ ?_
  · exact ⟨by simp only [push_n', set_n'], by first | exact cKP | fail, by (first | exact cGT | fail), by (first | exact cGT | fail)⟩
  rintro σ1 ⟨x1, x2, x3, x4⟩
  have W1 := h.frame (τ := σ1) (by omega) x2
  refine callP_use (iWOk_fn σ1 lo B j _ gb ws gs W1.weak) ?_
  rintro x τ hn0 ⟨rfl, rfl⟩
  rw [decide_eq_true hP]
  simp (config := {contextual := true, maxSteps := 1000000}) (disch := first | exact dB | fail) [go_sem, envOf, wrap_i64, int_lt, -Int.not_le, -Int.not_lt, Bool.decide_and, Bool.decide_or, and_assoc, Bool.and_assoc, Bool.or_assoc, Prod.exists, Prod.forall, -List.map_set, set_put, x3, x4, hn2]
  (repeat refine Alt.mk ?_)
  refine callP_use (iOwn_fn τ lo B j _ gb ws gs W1) ?_
  rintro x τ2 hn2' ⟨q, v', b, gs', rfl, a1, a2, a3⟩
  have iv' := a2.isL
  have y4 := (a3 _ (by omega)).trans x4
  have hlen' : gs'.length = gs.length := by simpa using congrArg List.length a1
  have hq1 := a2.hj
  have hq2 := a2.gbn
  have hq3 := a2.lj
  have hq4 := a2.lg
  obtain ⟨m', hv'⟩ : ∃ m', v' = .sl b 0 m' 26 := by
    cases a2.hv with
    | none => simp at hlen'; omega
    | some q0 q1 q2 q3 q4 => exact ⟨_, rfl⟩
  subst hv'
  have hm : m' = m := by
    have e1 := (GB.four a2.hv).1
    have e2 := (GB.four h.hv).1
    omega
  subst hm
  simp (config := {contextual := true, maxSteps := 1000000}) (disch := first | exact dB | fail) [go_sem, envOf, wrap_i64, int_lt, -Int.not_le, -Int.not_lt, Bool.decide_and, Bool.decide_or, and_assoc, Bool.and_assoc, Bool.or_assoc, Prod.exists, Prod.forall, -List.map_set, set_put, y4, hn2]
  (repeat refine Alt.mk ?_)
  have hP0 : PL0 σ τ2.n q m' B ws gs b gs' (τ2.push ⟨[.sl q 0 ws.length 1, .sl b 0 m' 26], true⟩) := by
    refine ⟨(a2.frame (by simp only [push_n']; omega) (fun y hy => push_get_lt hy)).low (by omega), a1, by (first | exact cGT | fail), by simp only [push_n']; omega, ⟨by omega, by omega⟩, a2.apt (Nat.le_refl _), fun y hy => ?_, by rw [push_get_lt (by omega)]; exact y4, by omega⟩
    rw [push_get_lt (by omega), a3 y (by omega), x2 y hy]
  generalize hz : τ2.n = z at hP0 ⊢
  generalize (τ2.push ⟨[.sl q 0 ws.length 1, .sl b 0 m' 26], true⟩) = τ0 at hP0 ⊢
  clear a2 a3 y4 x2 x3 x4 W1
  refine aloops_lt (fun R_ env τ => ∃ (u : Nat), ∃ (gs' : List (Guest × AV × AV)), env 4 = .ptr (σ.n + 1) 0 ∧ env 5 = .ptr z 0 ∧ env 19 = .sl eb 0 n 6 ∧ env 20 = .int .i64 n ∧ env 21 = .int .i64 u ∧ R_ (n - u) ∧ (PL0 σ z q m' B ws gs b gs' τ) ∧ (u ≤ n)) (by rintro R_ env τ ⟨u, gs', e4, e5, e19, e20, e21, hR_, hC, um⟩; exact ⟨_, hR_, u, gs', e4, e5, e19, e20, e21, rfl, hC, um⟩) ⟨0, gs', by first | rfl | simp [put_get, *], by first | rfl | simp [put_get, *], by first | rfl | simp [put_get, *], by first | rfl | simp [put_get, *], by first | rfl | simp [put_get, *], trivial, ?_, ?_⟩ ?_
  rotate_left 2
  rintro m_ env τ ⟨u, gs', e4, e5, e19, e20, e21, rfl, hC, um⟩
  · have hC1 := hC
    obtain ⟨W, mp, gz, zn, zq, az, fr, g4, lz⟩ := hC
    by_cases hu : u < n
    · have hu2 : ¬ n ≤ u := by omega
      obtain ⟨e, hee⟩ : ∃ e, evs[u]? = some e := ⟨evs[u]'(by omega), by simp [hl, hu]⟩
      obtain ⟨k1, k2⟩ := hev e (List.mem_of_getElem? hee)
      have hsub := eCells_sub hee
      have hlen : u * 6 + 6 ≤ (eCells evs).length := by rw [eCells_len]; omega
      have he1 := (fr eb hen).trans he
      simp (config := {contextual := true, maxSteps := 1000000}) (disch := first | exact dB | fail) [go_sem, envOf, wrap_i64, int_lt, -Int.not_le, -Int.not_lt, Bool.decide_and, Bool.decide_or, and_assoc, Bool.and_assoc, Bool.or_assoc, Prod.exists, Prod.forall, -List.map_set, set_put, e4, e5, e19, e20, e21, he1, hsub, hlen, hu, hu2]
      (repeat refine Alt.mk ?_)
      refine callP_gen (fun σ5 => σ5.n = τ.n + 1 ∧ (∀ y, y < τ.n → σ5.get y = τ.get y)) ?_ ?_
      · exact ⟨by simp only [push_n'], fun y hy => push_get_lt hy⟩
      rintro σ5 ⟨m1, m2⟩
      obtain ⟨⟨g', sv, pv⟩, hx'⟩ : ∃ x, gs'[i]? = some x := ⟨gs'[i]'(by have := congrArg List.length mp; simp at this; omega), by simp⟩
      have hgg : g' = g := by
        have e1 : (gs'.map (·.1))[i]? = some g' := by simp [hx']
        rw [mp, hx] at e1
        simpa using e1.symm
      subst hgg
      have hbn := W.gbn
      have hlg := W.lg
      obtain ⟨f1, f2⟩ := GB.four W.hv
      refine callP_use (iDo0_fn σ5 z (σ.n + 1 + 1) B q b m' ws gs' (W.frame (by omega) m2) ((m2 z zn).trans gz) (by omega) zq az i g' sv pv hx' hup f1 ((m2 b hbn).trans f2) e k1 k2) ?_
      rintro x τ6 hn6 ⟨gs2, b1, b2, b3, b4, b5⟩
      simp (config := {contextual := true, maxSteps := 1000000}) (disch := first | exact dB | fail) [go_sem, envOf, wrap_i64, int_lt, -Int.not_le, -Int.not_lt, Bool.decide_and, Bool.decide_or, and_assoc, Bool.and_assoc, Bool.or_assoc, Prod.exists, Prod.forall, -List.map_set, set_put, e4, e5, e19, e20, e21, hu]
      (repeat refine Alt.mk ?_)
      have hP2 : PL0 σ z q m' B ws gs b gs2 τ6 := by
        refine ⟨b2, b1.trans mp, b3, by omega, zq, b4, fun y hy => ?_, ?_, lz⟩
        · rw [b5 y (by omega) (by simp only [NE]; omega), m2 y (by omega), fr y hy]
        · rw [b5 _ (by omega) (by simp only [NE]; omega), m2 _ (by omega)]; exact g4
      exact ⟨u + 1, by omega, by omega, ⟨gs2, hP2⟩, by omega⟩
    · have hu2 : n ≤ u := by omega
      simp (config := {contextual := true, maxSteps := 1000000}) (disch := first | exact dB | fail) [go_sem, envOf, wrap_i64, int_lt, -Int.not_le, -Int.not_lt, Bool.decide_and, Bool.decide_or, and_assoc, Bool.and_assoc, Bool.or_assoc, Prod.exists, Prod.forall, -List.map_set, set_put, e4, e5, e19, e20, e21, gz, hu, hu2]
      (repeat refine Alt.mk ?_)
      refine callP_use (iOwn_fn τ (σ.n + 1 + 1) B q _ b ws gs' W) ?_
      rintro x τ7 hn7 ⟨q3, v3, gb3, gs3, rfl, c1, c2, c3⟩
      have iv3 := c2.isL
      have w5 := (c3 _ (by omega)).trans g4
      simp (config := {contextual := true, maxSteps := 1000000}) (disch := first | exact dB | fail) [go_sem, envOf, wrap_i64, int_lt, -Int.not_le, -Int.not_lt, Bool.decide_and, Bool.decide_or, and_assoc, Bool.and_assoc, Bool.or_assoc, Prod.exists, Prod.forall, -List.map_set, set_put, e4, e5, e19, e20, e21, w5]
      (repeat refine Alt.mk ?_)
      rw [← hG]
      refine ⟨fun y hy => ?_, q3, v3, gb3, gs3, rfl, c1.trans mp, ?_⟩
      · rw [set_get_ne (by omega), c3 y (by omega), fr y hy]
      · exact (c2.past (z := σ.n + 1) (by omega) (by simp only [set_n']; omega) (fun y q1 q2 => set_get_ne q2.ne)).low (by omega)
  · exact hP0
  · omega
end AH
/- THE LAW: the dead do nothing. -/
namespace AH
open Go Go.Proofs Ho
set_option maxRecDepth 20000
set_option maxHeartbeats 16000000
theorem guestP_up (c : Cfg) (g : Guest) (b : Bool) : guestP c { g with up := b } ↔ guestP c g := by
  unfold guestP fieldsP placeP
  exact Iff.rfl
theorem worldP_dead {ws : List Int} {gs : List Guest} (h : worldP ws gs) {i : Nat} {g : Guest} (hx : gs[i]? = some g) : worldP ws (gs.set i { g with up := false }) := by
  refine ⟨h.1, by simp; exact h.2.1, fun x hm => ?_⟩
  rcases List.mem_or_eq_of_mem_set hm with hm | rfl
  · exact h.2.2 x hm
  · exact (guestP_up _ _ _).2 (h.2.2 g (List.mem_of_getElem? hx))
theorem tick_at (ws : List Int) (n : Int) (k : Int) (hk : 0 ≤ k) (h1 : ¬ k = 1) : at_ (tickW ws n) k = at_ ws k := by
  unfold tickW
  split
  · rfl
  · rw [at_put, if_neg (by omega)]
theorem tick_clock (ws : List Int) (n : Int) (hn : 0 ≤ n ∧ n ≤ 1000) (hl : 2 ≤ ws.length) : cval (at_ (tickW ws n) 1) = cval (at_ ws 1) + n ∨ cval (at_ (tickW ws n) 1) = 1048575 := by
  have hc := cval_range (w := at_ ws 1)
  unfold tickW
  rw [if_neg (by omega), at_put, if_pos ⟨rfl, by omega⟩, cval_pack]
  unfold clamp
  omega
theorem lawDead_fn (σ : AHeap) (a b : AV) (l0 l1 : List Int) (x0 : LsV .u8 σ a l0) (x1 : LsV .u8 σ b l1) (r : ∀ x ∈ l0, 0 ≤ x ∧ x ≤ 255) : Fn Tryz.prog 12 [a, b] σ fun x _ => x = .bool true := by
  generalize hG : (fun (x : AV) (_ : AHeap) => x = AV.bool true) = GG
  have fin : ∀ τ : AHeap, GG (.bool true) τ := fun τ => by rw [← hG]
  clear hG
  have i0 := x0.isL
  have i1 := x1.isL
  have le0 : LenIs a l0.length := x0.lenIs
  have le1 : LenIs b l1.length := x1.lenIs
  refine fn_of ord12 mixed Tryz.func12 (by kernel_rfl) rfl (by kernel_rfl) ?_
  by_cases c0 : (l0.length : Int) ≤ 1048576
  rotate_left
  · simp (config := {contextual := true, maxSteps := 1000000}) (disch := first | exact dB | fail) [go_sem, envOf, wrap_i64, int_lt, -Int.not_le, -Int.not_lt, Bool.decide_and, Bool.decide_or, and_assoc, Bool.and_assoc, Bool.or_assoc, Prod.exists, Prod.forall, -List.map_set, set_put, ord12, c0]
    (repeat refine Alt.mk ?_)
    exact fin _
  by_cases c1 : (l1.length : Int) ≤ 1048576
  rotate_left
  · simp (config := {contextual := true, maxSteps := 1000000}) (disch := first | exact dB | fail) [go_sem, envOf, wrap_i64, int_lt, -Int.not_le, -Int.not_lt, Bool.decide_and, Bool.decide_or, and_assoc, Bool.and_assoc, Bool.or_assoc, Prod.exists, Prod.forall, -List.map_set, set_put, ord12, c0, c1]
    (repeat refine Alt.mk ?_)
    exact fin _
  obtain ⟨n, hN⟩ : ∃ n : Int, (l1.length : Int).tmod 900 = n := ⟨_, rfl⟩
  have hn : 0 ≤ n ∧ n < 900 := by
    rw [← hN, Int.tmod_eq_emod_of_nonneg (by omega)]
    omega
  simp (config := {contextual := true, maxSteps := 1000000}) (disch := first | exact dB | fail) [go_sem, envOf, wrap_i64, int_lt, -Int.not_le, -Int.not_lt, Bool.decide_and, Bool.decide_or, and_assoc, Bool.and_assoc, Bool.or_assoc, Prod.exists, Prod.forall, -List.map_set, set_put, ord12, c0, c1]
  (repeat refine Alt.mk ?_)
  refine callP_use (zDrawWO_fn σ a l0 x0 (by omega) r) ?_
  rintro x τ hn0 ⟨j, v, gb, ws, gs, i, rfl, q1, q2, W, w1⟩
  have iv := W.isL
  have m7 := W.m7
  have lv := W.hv.lenI
  simp (config := {contextual := true, maxSteps := 1000000}) (disch := first | exact dB | fail) [go_sem, envOf, wrap_i64, int_lt, -Int.not_le, -Int.not_lt, Bool.decide_and, Bool.decide_or, and_assoc, Bool.and_assoc, Bool.or_assoc, Prod.exists, Prod.forall, -List.map_set, set_put, ord12, c0, c1]
  (repeat refine Alt.mk ?_)
  refine callP_gen (fun σ1 => σ1.n = τ.n + 1 ∧ (∀ y, y < τ.n → σ1.get y = τ.get y) ∧ σ1.get τ.n = some ⟨[.sl j 0 ws.length 1, v], true⟩) ?_ ?_
  · exact ⟨by simp only [push_n'], fun y hy => push_get_lt hy, by (first | exact cGT | fail)⟩
  rintro σ1 ⟨m1, m2, m3⟩
  have W1 := W.frame (τ := σ1) (by omega) m2
  have jlt := W.hj
  generalize hz5 : τ.n = z5 at m1 m2 m3
  refine callP_use (zWOkB_fn σ1 σ.n 60000 j v gb ws gs W1) ?_
  rintro x τ2 hn2 ⟨rfl, rfl⟩
  by_cases hP : worldP ws (gs.map (·.1)) ∧ 0 ≤ i ∧ i < gs.length
  rotate_left
  · have hb : decide (worldP ws (gs.map (·.1))) = false ∨ i < 0 ∨ (gs.length : Int) ≤ i := by
      by_cases h1 : worldP ws (gs.map (·.1))
      · by_cases h2 : 0 ≤ i
        · exact .inr (.inr (Int.not_lt.1 fun h3 => hP ⟨h1, h2, h3⟩))
        · exact .inr (.inl (by omega))
      · exact .inl (decide_eq_false h1)
    generalize hD : decide (worldP ws (gs.map (·.1))) = D at hb
    have A1 := iWOk_fn τ2 σ.n 60000 j v gb ws gs W1
    have A2 := zWOkB_fn τ2 σ.n 60000 j v gb ws gs W1
    rw [hD] at A1 A2
    have hb2 : D = false ∨ (D = true ∧ i < 0) ∨ (D = true ∧ ¬ i < 0 ∧ (gs.length : Int) ≤ i) := by
      cases D with
      | false => exact .inl rfl
      | true =>
        by_cases h2 : i < 0
        · exact .inr (.inl ⟨rfl, h2⟩)
        · rcases hb with h | h | h
          · cases h
          · exact absurd h h2
          · exact .inr (.inr ⟨rfl, h2, h⟩)
    clear hD hb
    rcases hb2 with rfl | ⟨rfl, h2⟩ | ⟨rfl, h2, h3⟩
    · simp (config := {contextual := true, maxSteps := 1000000}) (disch := first | exact dB | fail) [go_sem, envOf, wrap_i64, int_lt, -Int.not_le, -Int.not_lt, Bool.decide_and, Bool.decide_or, and_assoc, Bool.and_assoc, Bool.or_assoc, Prod.exists, Prod.forall, -List.map_set, set_put, ord12, m3]
      (repeat refine Alt.mk ?_)
      refine callP_use A1 ?_
      rintro x τ4 hn4 ⟨rfl, rfl⟩
      simp (config := {contextual := true, maxSteps := 1000000}) (disch := first | exact dB | fail) [go_sem, envOf, wrap_i64, int_lt, -Int.not_le, -Int.not_lt, Bool.decide_and, Bool.decide_or, and_assoc, Bool.and_assoc, Bool.or_assoc, Prod.exists, Prod.forall, -List.map_set, set_put, ord12, m3]
      (repeat refine Alt.mk ?_)
      refine callP_use A2 ?_
      rintro x τ5 hn5 ⟨rfl, rfl⟩
      simp (config := {contextual := true, maxSteps := 1000000}) (disch := first | exact dB | fail) [go_sem, envOf, wrap_i64, int_lt, -Int.not_le, -Int.not_lt, Bool.decide_and, Bool.decide_or, and_assoc, Bool.and_assoc, Bool.or_assoc, Prod.exists, Prod.forall, -List.map_set, set_put, ord12, m3]
      (repeat refine Alt.mk ?_)
      exact fin _
    · simp (config := {contextual := true, maxSteps := 1000000}) (disch := first | exact dB | fail) [go_sem, envOf, wrap_i64, int_lt, -Int.not_le, -Int.not_lt, Bool.decide_and, Bool.decide_or, and_assoc, Bool.and_assoc, Bool.or_assoc, Prod.exists, Prod.forall, -List.map_set, set_put, ord12, m3, h2]
      (repeat refine Alt.mk ?_)
      refine callP_use A1 ?_
      rintro x τ4 hn4 ⟨rfl, rfl⟩
      simp (config := {contextual := true, maxSteps := 1000000}) (disch := first | exact dB | fail) [go_sem, envOf, wrap_i64, int_lt, -Int.not_le, -Int.not_lt, Bool.decide_and, Bool.decide_or, and_assoc, Bool.and_assoc, Bool.or_assoc, Prod.exists, Prod.forall, -List.map_set, set_put, ord12, m3, h2]
      (repeat refine Alt.mk ?_)
      refine callP_use A2 ?_
      rintro x τ5 hn5 ⟨rfl, rfl⟩
      simp (config := {contextual := true, maxSteps := 1000000}) (disch := first | exact dB | fail) [go_sem, envOf, wrap_i64, int_lt, -Int.not_le, -Int.not_lt, Bool.decide_and, Bool.decide_or, and_assoc, Bool.and_assoc, Bool.or_assoc, Prod.exists, Prod.forall, -List.map_set, set_put, ord12, m3, h2]
      (repeat refine Alt.mk ?_)
      exact fin _
    · simp (config := {contextual := true, maxSteps := 1000000}) (disch := first | exact dB | fail) [go_sem, envOf, wrap_i64, int_lt, -Int.not_le, -Int.not_lt, Bool.decide_and, Bool.decide_or, and_assoc, Bool.and_assoc, Bool.or_assoc, Prod.exists, Prod.forall, -List.map_set, set_put, ord12, m3, h2, h3]
      (repeat refine Alt.mk ?_)
      refine callP_use A1 ?_
      rintro x τ4 hn4 ⟨rfl, rfl⟩
      simp (config := {contextual := true, maxSteps := 1000000}) (disch := first | exact dB | fail) [go_sem, envOf, wrap_i64, int_lt, -Int.not_le, -Int.not_lt, Bool.decide_and, Bool.decide_or, and_assoc, Bool.and_assoc, Bool.or_assoc, Prod.exists, Prod.forall, -List.map_set, set_put, ord12, m3, h2, h3]
      (repeat refine Alt.mk ?_)
      refine callP_use A2 ?_
      rintro x τ5 hn5 ⟨rfl, rfl⟩
      simp (config := {contextual := true, maxSteps := 1000000}) (disch := first | exact dB | fail) [go_sem, envOf, wrap_i64, int_lt, -Int.not_le, -Int.not_lt, Bool.decide_and, Bool.decide_or, and_assoc, Bool.and_assoc, Bool.or_assoc, Prod.exists, Prod.forall, -List.map_set, set_put, ord12, m3, h2, h3]
      (repeat refine Alt.mk ?_)
      exact fin _
  obtain ⟨hP, hi0, hi1⟩ := hP
  rw [decide_eq_true hP]
  have hi2 : ¬ i < 0 := by omega
  have hi3 : ¬ (gs.length : Int) ≤ i := by omega
  simp (config := {contextual := true, maxSteps := 1000000}) (disch := first | exact dB | fail) [go_sem, envOf, wrap_i64, int_lt, -Int.not_le, -Int.not_lt, Bool.decide_and, Bool.decide_or, and_assoc, Bool.and_assoc, Bool.or_assoc, Prod.exists, Prod.forall, -List.map_set, set_put, ord12, m3, hi0, hi1, hi2, hi3]
  (repeat refine Alt.mk ?_)
  have Wok := W1.ok hP
  obtain ⟨iN, hiN⟩ : ∃ k : Nat, i = k := ⟨i.toNat, by omega⟩
  subst hiN
  have hil : iN < gs.length := by omega
  obtain ⟨⟨g, sv, pv⟩, hx⟩ : ∃ x, gs[iN]? = some x := ⟨gs[iN]'hil, by simp [hil]⟩
  have hgm : (gs.map (·.1))[iN]? = some g := by simp [hx]
  have hdo1 : ∀ (σ : AHeap) (z lo j : Nat) (v : AV) (gb : Nat) (gs' : List (Guest × AV × AV)), gs'.map (·.1) = gs.map (·.1) → WAt σ lo 60000 j v gb ws gs' → σ.get z = some ⟨[.sl j 0 ws.length 1, v], true⟩ → z < σ.n → z ≠ j ∧ z ≠ gb → Apt z gs' → Fn Tryz.prog 67 [.ptr z 0, .agg (evV ⟨2, iN, 0, 0, 0, 0⟩), .fn 68 [] []] σ fun x τ => DoP σ z lo 60000 j gb (ws, (gs.map (·.1)).set iN { g with up := false }) τ := by
    intro σ z lo j v gb gs' e1 hW hz hzn hlz haz
    obtain ⟨⟨g', sv', pv'⟩, hx'⟩ : ∃ x, gs'[iN]? = some x := ⟨gs'[iN]'(by have := congrArg List.length e1; simp at this; omega), by simp⟩
    have hgg : g' = g := by
      have e2 : (gs'.map (·.1))[iN]? = some g' := by simp [hx']
      rw [e1, hgm] at e2
      simpa using e2.symm
    subst hgg
    have hv := hW.hv
    rw [← e1]
    cases hv with
    | none => simp at hx'
    | @some gb m gs' q0 q1 q2 q3 q4 => exact iDies_fn σ z lo 60000 j gb m ws gs' hW hz hzn hlz haz iN g' sv' pv' hx' q0 q4 _ rfl rfl
  refine callP_use (iWDoG_fn τ2 σ.n 60000 j v gb ws gs Wok hP ⟨2, iN, 0, 0, 0, 0⟩ _ hdo1) ?_
  rintro x τ3 hn3 ⟨f3, q, v', gb', ws', gs', rfl, e3, X⟩
  obtain ⟨rfl, e4⟩ := Prod.mk.inj e3
  have iv3 := X.isL
  have m33 := (f3 z5 (by omega)).trans m3
  simp (config := {contextual := true, maxSteps := 1000000}) (disch := first | exact dB | fail) [go_sem, envOf, wrap_i64, int_lt, -Int.not_le, -Int.not_lt, Bool.decide_and, Bool.decide_or, and_assoc, Bool.and_assoc, Bool.or_assoc, Prod.exists, Prod.forall, -List.map_set, set_put, ord12, m33]
  (repeat refine Alt.mk ?_)
  have hlen3 : gs'.length = gs.length := by simpa using congrArg List.length e4
  obtain ⟨m, hv'⟩ : ∃ m, v' = .sl gb' 0 m 26 := by
    cases X.hv with
    | none => simp at hlen3; omega
    | some q0 q1 q2 q3 q4 => exact ⟨_, rfl⟩
  subst hv'
  have hPX : worldP ws' (gs'.map (·.1)) := by rw [e4]; exact worldP_dead hP hgm
  have hgX : (gs'.map (·.1))[iN]? = some { g with up := false } := by
    rw [e4, List.getElem?_set, if_pos rfl, if_pos (by simpa using hil)]
  obtain ⟨fm, _⟩ := GB.four X.hv
  refine callP_gen (fun σ4 => σ4.n = τ3.n + 1 + 1 ∧ (∀ y, y < τ3.n → σ4.get y = τ3.get y) ∧ σ4.get τ3.n = some ⟨[.sl q 0 ws'.length 1, .sl gb' 0 m 26], true⟩ ∧ σ4.get (τ3.n + 1) = some ⟨eCells [⟨4, iN, 50, 0, 0, 0⟩, ⟨3, iN, 0, 2, 1, 0⟩, ⟨4, iN, 5, 0, 0, 0⟩], true⟩) ?_ ?_
  · exact ⟨by simp only [push_n'], by first | exact cKP | fail, by (first | exact cGT | fail), by (first | exact cGT | fail)⟩
  rintro σ4 ⟨n1, n2, n3, n4⟩
  have qlt := X.hj
  have gblt := X.gbn
  have X4 := X.frame (τ := σ4) (by omega) n2
  refine callP_use (iPlay0_fn σ4 _ 60000 q gb' m ws' gs' X4 hPX iN _ hgX rfl (τ3.n + 1) 3 _ n4 (by omega) rfl (by omega) (by simp)) ?_
  rintro x τ5 hn5 ⟨f5, qy, vy, gby, gsy, rfl, ey, Y⟩
  have ivy := Y.isL
  have p5 := (f5 z5 (by omega)).trans ((n2 z5 (by omega)).trans m33)
  have p7 := (f5 _ (by omega)).trans n3
  simp (config := {contextual := true, maxSteps := 1000000}) (disch := first | exact dB | fail) [go_sem, envOf, wrap_i64, int_lt, -Int.not_le, -Int.not_lt, Bool.decide_and, Bool.decide_or, and_assoc, Bool.and_assoc, Bool.or_assoc, Prod.exists, Prod.forall, -List.map_set, set_put, ord12, p5, p7, hN]
  (repeat refine Alt.mk ?_)
  refine callP_gen (fun σ6 => σ6.n = τ5.n + 1 ∧ (∀ y, y < τ5.n → σ6.get y = τ5.get y) ∧ σ6.get τ5.n = some ⟨[.sl qy 0 ws'.length 1, vy], true⟩) ?_ ?_
  · exact ⟨by simp only [push_n'], fun y hy => push_get_lt hy, by (first | exact cGT | fail)⟩
  rintro σ6 ⟨o1, o2, o3⟩
  have fr6 : ∀ y, y < τ2.n → σ6.get y = τ2.get y := fun y hy => by rw [o2 y (by omega), f5 y (by omega), n2 y (by omega), f3 y hy]
  have W6 := Wok.frame (τ := σ6) (by omega) fr6
  have hdo2 : ∀ (σ : AHeap) (z lo j : Nat) (v : AV) (gb : Nat) (gs' : List (Guest × AV × AV)), gs'.map (·.1) = gs.map (·.1) → WAt σ lo 60000 j v gb ws' gs' → σ.get z = some ⟨[.sl j 0 ws'.length 1, v], true⟩ → z < σ.n → z ≠ j ∧ z ≠ gb → Apt z gs' → Fn Tryz.prog 67 [.ptr z 0, .agg (evV ⟨5, 0, n, 0, 0, 0⟩), .fn 68 [] []] σ fun x τ => DoP σ z lo 60000 j gb (tickW ws' n, gs.map (·.1)) τ := by
    intro σ z lo j v gb gs' e1 hW hz hzn hlz haz
    rw [← e1]
    exact iTicks_fn σ z lo 60000 j v gb ws' gs' hW hz hzn hlz haz ⟨5, 0, n, 0, 0, 0⟩ rfl (by dsimp only; omega)
  refine callP_use (iWDoG_fn σ6 σ.n 60000 j v gb ws' gs W6 hP ⟨5, 0, n, 0, 0, 0⟩ _ hdo2) ?_
  rintro x τ7 hn7 ⟨f7, qz, vz, gbz, wz, gsz, rfl, ez, Z⟩
  obtain ⟨rfl, _⟩ := Prod.mk.inj ez
  have ivz := Z.isL
  have fr7 : ∀ y, y < τ5.n → τ7.get y = τ5.get y := fun y hy => (f7 y (by omega)).trans (o2 y hy)
  have r5 := (fr7 z5 (by omega)).trans p5
  have r7 := (fr7 _ (by omega)).trans p7
  have r8 := (f7 _ (by omega)).trans o3
  simp (config := {contextual := true, maxSteps := 1000000}) (disch := first | exact dB | fail) [go_sem, envOf, wrap_i64, int_lt, -Int.not_le, -Int.not_lt, Bool.decide_and, Bool.decide_or, and_assoc, Bool.and_assoc, Bool.or_assoc, Prod.exists, Prod.forall, -List.map_set, set_put, ord12, r5, r7, r8, hN]
  (repeat refine Alt.mk ?_)
  have hTl := tickW_len ws' n
  have htk : ∀ u : Int, 0 ≤ u → ¬ u = 1 → at_ (tickW ws' n) u = at_ ws' u := fun u h1 h2 => tick_at ws' n u h1 h2
  have hcl := tick_clock ws' n (by omega) W.l2
  generalize hT : tickW ws' n = T at *
  refine aloops_gen (fun τ8 => (∀ y, y < τ7.n → τ8.get y = τ7.get y) ∧ τ8.get τ7.n = some ⟨[.sl qz 0 T.length 1, vz], true⟩ ∧ τ7.n < τ8.n) ?_ ?_
  · exact ⟨fun y hy => push_get_lt hy, by (first | exact cGT | fail), by simp only [push_n']; omega⟩
  intro τ8 ⟨g1, g2, g3⟩
  have fr8 : ∀ y, y < τ2.n → τ8.get y = τ2.get y := fun y hy => by rw [g1 y (by omega), f7 y (by omega), fr6 y hy]
  have fr83 : ∀ y, y < τ3.n → τ8.get y = τ3.get y := fun y hy => by rw [g1 y (by omega), fr7 y (by omega), f5 y (by omega), n2 y hy]
  have s5 := (g1 _ (by omega)).trans ((f7 _ (by omega)).trans ((o2 _ (by omega)).trans p5))
  have s7 := (g1 _ (by omega)).trans ((f7 _ (by omega)).trans ((o2 _ (by omega)).trans p7))
  have s8 := (g1 _ (by omega)).trans r8
  have W8 := Wok.frame (τ := τ8) (by omega) fr8
  have X8 := X.frame (τ := τ8) (by omega) fr83
  have Y8 := Y.frame (τ := τ8) (by omega) (fun y hy => (g1 y (by omega)).trans (fr7 y hy))
  have Z8 := Z.frame (τ := τ8) (by omega) g1
  have hwj := lsv_at W8.hj W8.hw rfl
  have hwq := lsv_at X8.hj X8.hw rfl
  have hwz := lsv_at Z8.hj Z8.hw rfl
  have hWw := W8.W
  have hTw := Z8.W
  have hll := W.len
  have hl2 := W.l2
  clear hdo1 hdo2 f3 f5 f7 fr6 fr7 fr8 fr83 o2 o3 n2 n3 n4 m2 m3 m33 w1
  refine aloops_lt (fun R_ env τ => ∃ (u : Int), env 1 = b ∧ env 5 = .ptr z5 0 ∧ env 6 = .int .i64 iN ∧ env 7 = .ptr τ3.n 0 ∧ env 8 = .ptr τ5.n 0 ∧ env 9 = .ptr τ7.n 0 ∧ env 10 = .int .i64 u ∧ τ8 = τ ∧ R_ ((ws'.length - u).toNat) ∧ (0 ≤ u ∧ u ≤ ws'.length)) (by rintro R_ env τ ⟨u, e1, e5, e6, e7, e8, e9, e10, h_, hR_, hp⟩; exact ⟨_, hR_, u, e1, e5, e6, e7, e8, e9, e10, h_, rfl, hp⟩) ⟨0, by first | rfl | simp [put_get, *], by first | rfl | simp [put_get, *], by first | rfl | simp [put_get, *], by first | rfl | simp [put_get, *], by first | rfl | simp [put_get, *], by first | rfl | simp [put_get, *], by first | rfl | simp [put_get, *], rfl, trivial, ?_⟩ ?_
  rotate_left
  rintro m_ env τ ⟨u, e1, e5, e6, e7, e8, e9, e10, rfl, rfl, hp⟩
  · by_cases hu : u < ws'.length
    · have hu2 : u < T.length := by omega
      have hu0 := hp.1
      by_cases hu1 : u = 1
      · simp (config := {contextual := true, maxSteps := 1000000}) (disch := first | exact dB | fail) [go_sem, envOf, wrap_i64, int_lt, -Int.not_le, -Int.not_lt, Bool.decide_and, Bool.decide_or, and_assoc, Bool.and_assoc, Bool.or_assoc, Prod.exists, Prod.forall, -List.map_set, set_put, ord12, e1, e5, e6, e7, e8, e9, e10, s5, s7, g2, hu, hu2, hu1]
        (repeat refine Alt.mk ?_)
        exact ⟨fun _ => ⟨by omega, by omega⟩, fun h => absurd h (by omega)⟩
      · have htu := htk u hu0 hu1
        simp (config := {contextual := true, maxSteps := 1000000}) (disch := first | exact dB | fail) [go_sem, envOf, wrap_i64, int_lt, -Int.not_le, -Int.not_lt, Bool.decide_and, Bool.decide_or, and_assoc, Bool.and_assoc, Bool.or_assoc, Prod.exists, Prod.forall, -List.map_set, set_put, ord12, e1, e5, e6, e7, e8, e9, e10, s5, s7, g2, hu, hu2, hu1, htu]
        (repeat refine Alt.mk ?_)
        exact ⟨by omega, by omega, by omega⟩
    · have l1l : (1 : Int) < ws'.length := by omega
      have l1T : (1 : Int) < T.length := by omega
      have hA := at_isW hWw 1
      have hB := at_isW hTw 1
      simp (config := {contextual := true, maxSteps := 1000000}) (disch := first | exact dB | fail) [go_sem, envOf, wrap_i64, int_lt, -Int.not_le, -Int.not_lt, Bool.decide_and, Bool.decide_or, and_assoc, Bool.and_assoc, Bool.or_assoc, Prod.exists, Prod.forall, -List.map_set, set_put, ord12, e1, e5, e6, e7, e8, e9, e10, s5, s7, s8, g2, hu, l1l, l1T, hN]
      (repeat refine Alt.mk ?_)
      have hs9 : Fn Tryz.prog 38 [.agg [.sl q 0 ws'.length 1, .sl gb' 0 m 26], .agg [.sl qy 0 ws'.length 1, vy]] τ8 fun x τ => x = .bool true ∧ (∀ y, y < τ8.n → τ.get y = τ8.get y) :=
        whSame_fn τ8 _ _ _ _ ws' gs' gsy hwq (lsv_at Y8.hj Y8.hw rfl) W.len X8.hv.gv Y8.hv.gv ey.symm (by have := X8.m6; omega) X8.lens Y8.lens
      refine callP_use hs9 ?_
      rintro x τ9 hn9 ⟨rfl, f9⟩
      have u7 := (f9 _ (by omega)).trans s7
      have hgb9 : τ9.get gb' = some ⟨gCells gs', true⟩ := (f9 _ X8.gbn).trans (GB.four X8.hv).2
      obtain ⟨⟨g2', sv2, pv2⟩, hx2⟩ : ∃ x, gs'[iN]? = some x := ⟨gs'[iN]'(by omega), by simp⟩
      have hg2 : g2' = { g with up := false } := by
        have e2 : (gs'.map (·.1))[iN]? = some g2' := by simp [hx2]
        rw [hgX] at e2
        simpa using e2.symm
      have hup2 : g2'.up = false := by rw [hg2]
      have hsub2 := gCells_sub hx2
      have hlen2 : iN * 26 + 26 ≤ (gCells gs').length := by rw [gCells_len]; omega
      have hc0 := gCells_cell0 (f := 0) hx2 (by omega)
      simp only [Nat.add_zero, hup2, List.getElem?_cons_zero] at hc0
      have hc1 : (gCells gs')[iN * 26]'(by omega) = .bool false := by
        have h := hc0
        rw [List.getElem?_eq_getElem (by omega)] at h
        simpa using h
      have him : iN < m := by omega
      have him2 : ¬ m ≤ iN := by omega
      have hva := cval_range (w := at_ ws' 1)
      rcases hcl with hcl | hcl
      · simp (config := {contextual := true, maxSteps := 1000000}) (disch := first | exact dB | fail) [go_sem, envOf, wrap_i64, int_lt, -Int.not_le, -Int.not_lt, Bool.decide_and, Bool.decide_or, and_assoc, Bool.and_assoc, Bool.or_assoc, Prod.exists, Prod.forall, -List.map_set, set_put, ord12, e1, e5, e6, e7, e8, e9, e10, u7, hgb9, hc0, hc1, him, him2, hlen2, hN, hcl]
        (repeat refine Alt.mk ?_)
        exact fin _
      · by_cases hcl2 : cval (at_ ws' 1) + n = 1048575
        · simp (config := {contextual := true, maxSteps := 1000000}) (disch := first | exact dB | fail) [go_sem, envOf, wrap_i64, int_lt, -Int.not_le, -Int.not_lt, Bool.decide_and, Bool.decide_or, and_assoc, Bool.and_assoc, Bool.or_assoc, Prod.exists, Prod.forall, -List.map_set, set_put, ord12, e1, e5, e6, e7, e8, e9, e10, u7, hgb9, hc0, hc1, him, him2, hlen2, hN, hcl, hcl2]
          (repeat refine Alt.mk ?_)
          exact fin _
        · have hcl3 : ¬ 1048575 = cval (at_ ws' 1) + n := fun h => hcl2 h.symm
          simp (config := {contextual := true, maxSteps := 1000000}) (disch := first | exact dB | fail) [go_sem, envOf, wrap_i64, int_lt, -Int.not_le, -Int.not_lt, Bool.decide_and, Bool.decide_or, and_assoc, Bool.and_assoc, Bool.or_assoc, Prod.exists, Prod.forall, -List.map_set, set_put, ord12, e1, e5, e6, e7, e8, e9, e10, u7, hgb9, hc0, hc1, him, him2, hlen2, hN, hcl, hcl2, hcl3]
          (repeat refine Alt.mk ?_)
          exact fin _
  · omega
end AH
