import Derived.Test.YtagihpbpblnnoaaGreatQ54
import Derived.Test.YtagihpbpblnnoaaGreatQ53
set_option linter.all false
namespace AH
open Go Go.Proofs Ho
set_option maxRecDepth 20000
set_option maxHeartbeats 16000000
theorem zWDoB_fn (σ : AHeap) (lo : Nat) (j : Nat) (v : AV) (gb : Nat) (ws : List Int) (gs : List (Guest × AV × AV)) (h : WBt σ lo 60000 j v gb ws gs) (n : Int) :
    Fn Tryz.prog 58 [.agg [.sl j 0 ws.length 1, v], .agg (evV ⟨1, 0, n, 0, 0, 0⟩)] σ fun x τ => (∀ y, y < σ.n → τ.get y = σ.get y) ∧ ((¬ worldP ws (gs.map (·.1)) ∧ x = .agg [.nils, .nils]) ∨ (worldP ws (gs.map (·.1)) ∧ ∃ q v' gb' gs', x = .agg [.sl q 0 ws.length 1, v'] ∧ gs'.map (·.1) = wBorn ws (gs.map (·.1)) n ∧ WAt τ σ.n 60800 q v' gb' ws gs')) := by
  by_cases hP : worldP ws (gs.map (·.1))
  · refine (zWorldDo_fn σ lo 60000 j v gb ws gs (h.ok hP) ⟨1, 0, n, 0, 0, 0⟩ (by omega)).use ?_
    rintro x τ hn ⟨a1, ⟨a2, _⟩ | ⟨_, q, v', gb', ws', gs', rfl, a3, a4⟩⟩
    · exact absurd hP a2
    · have e : wDo ws (gs.map (·.1)) ⟨1, 0, n, 0, 0, 0⟩ = (ws, wBorn ws (gs.map (·.1)) n) := by unfold wDo; rw [if_pos rfl]
      rw [e] at a3
      obtain ⟨e1, e2⟩ := Prod.mk.inj a3
      subst e1
      exact ⟨a1, .inr ⟨hP, q, v', gb', gs', rfl, e2, a4⟩⟩
  · generalize hG : (fun (x : AV) (τ : AHeap) => (∀ y, y < σ.n → τ.get y = σ.get y) ∧ ((¬ worldP ws (gs.map (·.1)) ∧ x = AV.agg [.nils, .nils]) ∨ (worldP ws (gs.map (·.1)) ∧ ∃ q v' gb' gs', x = AV.agg [.sl q 0 ws.length 1, v'] ∧ gs'.map (·.1) = wBorn ws (gs.map (·.1)) n ∧ WAt τ σ.n 60800 q v' gb' ws gs'))) = GG
    have iv := h.isL
    refine fn_of ord58 mixed Tryz.func58 (by kernel_rfl) rfl (by kernel_rfl) ?_
    simp (config := {contextual := true, maxSteps := 1000000}) (disch := first | exact dB | fail) [go_sem, envOf, wrap_i64, int_lt, -Int.not_le, -Int.not_lt, Bool.decide_and, Bool.decide_or, and_assoc, Bool.and_assoc, Bool.or_assoc, Prod.exists, Prod.forall, -List.map_set, set_put, ord58]
    (repeat refine Alt.mk ?_)
    refine callP_gen (fun σ1 => σ.n + 1 + 1 < σ1.n ∧ (∀ y, y < σ.n → σ1.get y = σ.get y) ∧ σ1.get (σ.n + 1 + 1) = some ⟨[.nils, .nils], true⟩ ∧ σ1.get σ.n = some ⟨[.sl j 0 ws.length 1, v], true⟩ ∧ σ1.get (σ.n + 1) = some ⟨evV ⟨1, 0, n, 0, 0, 0⟩, true⟩) ?_ ?_
    · exact ⟨by simp only [push_n', set_n']; omega, by first | exact cKP | fail, by (first | exact cGT | fail), by (first | exact cGT | fail), by (first | exact cGT | fail)⟩
    rintro σ1 ⟨x1, x2, x3, x4, x5⟩
    have hn1 : σ.n ≤ σ1.n := by omega
    have h1 := h.frame hn1 x2
    refine callP_use (zWOkB_fn σ1 lo 60000 j v gb ws gs h1) ?_
    rintro x τ hn ⟨rfl, rfl⟩
    rw [decide_eq_false hP]
    simp (config := {contextual := true, maxSteps := 1000000}) (disch := first | exact dB | fail) [go_sem, envOf, wrap_i64, int_lt, -Int.not_le, -Int.not_lt, Bool.decide_and, Bool.decide_or, and_assoc, Bool.and_assoc, Bool.or_assoc, Prod.exists, Prod.forall, -List.map_set, set_put, ord58, x3, x4, x5]
    (repeat refine Alt.mk ?_)
    rw [← hG]
    refine ⟨fun y yy => ?_, .inl ⟨hP, rfl⟩⟩
    first
      | exact x2 y yy
      | (rw [set_get_ne (by omega)]; exact x2 y yy)
theorem gCells_app (a b : List (Guest × AV × AV)) : gCells (a ++ b) = gCells a ++ gCells b := by
  induction a with
  | nil => rfl
  | cons x a ih => simp only [List.cons_append, gCells, ih, List.append_assoc]
theorem GV.frame {σ τ : AHeap} {v : AV} {gs : List (Guest × AV × AV)} (h : GV σ v gs) (hn : σ.n ≤ τ.n) (hf : ∀ y, y < σ.n → τ.get y = σ.get y) : GV τ v gs := by
  rcases h with ⟨rfl, rfl⟩ | ⟨gb, r, rfl, h1, h2⟩
  · exact .inl ⟨rfl, rfl⟩
  · exact .inr ⟨gb, r, rfl, by omega, (hf gb h1).trans h2⟩
theorem GB.len {τ : AHeap} {j gb : Nat} {v : AV} {gs : List (Guest × AV × AV)} (h : GB τ j v gb gs) : LenIs v gs.length := by
  cases h with
  | none => exact .inl ⟨rfl, rfl⟩
  | some h0 h1 h2 h3 h4 => exact .inr ⟨_, _, _, by rw [h0]⟩
theorem GB.gv {τ : AHeap} {j gb : Nat} {v : AV} {gs : List (Guest × AV × AV)} (h : GB τ j v gb gs) : GV τ v gs := by
  cases h with
  | none => exact .inl ⟨rfl, rfl⟩
  | some h0 h1 h2 h3 h4 => exact .inr ⟨gb, [], (by rw [h0]), h2, (by rw [List.append_nil]; exact h4)⟩
theorem gb_get {τ : AHeap} {j gb m : Nat} {gs : List (Guest × AV × AV)} (h : GB τ j (.sl gb 0 m 26) gb gs) : τ.get gb = some ⟨gCells gs, true⟩ := by
  cases h
  assumption
theorem WAt.lens {τ : AHeap} {lo : Nat} {B : Int} {j : Nat} {v : AV} {gb : Nat} {ws : List Int} {gs : List (Guest × AV × AV)} (h : WAt τ lo B j v gb ws gs) : ∀ x ∈ gs, LenIs x.2.1 x.1.snap.length ∧ LenIs x.2.2 x.1.plan.length := fun x hx => ⟨(h.G x hx).s.lenIs, (h.G x hx).p.lenIs⟩
theorem WBt.lens {τ : AHeap} {lo : Nat} {B : Int} {j : Nat} {v : AV} {gb : Nat} {ws : List Int} {gs : List (Guest × AV × AV)} (h : WBt τ lo B j v gb ws gs) : ∀ x ∈ gs, LenIs x.2.1 x.1.snap.length ∧ LenIs x.2.2 x.1.plan.length := fun x hx => ⟨(h.G x hx).s.lenIs, (h.G x hx).p.lenIs⟩
theorem lawBorn_fn (σ : AHeap) (a b : AV) (l0 l1 : List Int) (x0 : LsV .u8 σ a l0) (x1 : LsV .u8 σ b l1) (r : ∀ x ∈ l0, 0 ≤ x ∧ x ≤ 255) : Fn Tryz.prog 13 [a, b] σ fun x _ => x = .bool true := by
  generalize hG : (fun (x : AV) (_ : AHeap) => x = AV.bool true) = GG
  have fin : ∀ τ : AHeap, GG (.bool true) τ := fun τ => by rw [← hG]
  clear hG
  have i0 := x0.isL
  have i1 := x1.isL
  have le0 : LenIs a l0.length := x0.lenIs
  have le1 : LenIs b l1.length := x1.lenIs
  refine fn_of ord13 mixed Tryz.func13 (by kernel_rfl) rfl (by kernel_rfl) ?_
  by_cases c0 : (l0.length : Int) ≤ 1048576
  rotate_left
  · simp (config := {contextual := true, maxSteps := 1000000}) (disch := first | exact dB | fail) [go_sem, envOf, wrap_i64, int_lt, -Int.not_le, -Int.not_lt, Bool.decide_and, Bool.decide_or, and_assoc, Bool.and_assoc, Bool.or_assoc, Prod.exists, Prod.forall, -List.map_set, set_put, ord13, c0]
    (repeat refine Alt.mk ?_)
    exact fin _
  by_cases c1 : (l1.length : Int) ≤ 1048576
  rotate_left
  · simp (config := {contextual := true, maxSteps := 1000000}) (disch := first | exact dB | fail) [go_sem, envOf, wrap_i64, int_lt, -Int.not_le, -Int.not_lt, Bool.decide_and, Bool.decide_or, and_assoc, Bool.and_assoc, Bool.or_assoc, Prod.exists, Prod.forall, -List.map_set, set_put, ord13, c0, c1]
    (repeat refine Alt.mk ?_)
    exact fin _
  obtain ⟨n, hN⟩ : ∃ n : Int, (l1.length : Int).tmod 6 = n := ⟨_, rfl⟩
  have hn : 0 ≤ n ∧ n < 6 := by
    rw [← hN, Int.tmod_eq_emod_of_nonneg (by omega)]
    omega
  simp (config := {contextual := true, maxSteps := 1000000}) (disch := first | exact dB | fail) [go_sem, envOf, wrap_i64, int_lt, -Int.not_le, -Int.not_lt, Bool.decide_and, Bool.decide_or, and_assoc, Bool.and_assoc, Bool.or_assoc, Prod.exists, Prod.forall, -List.map_set, set_put, ord13, c0, c1, hN]
  (repeat refine Alt.mk ?_)
  refine callP_use (zDrawWB_fn σ a l0 x0 (by omega) r) ?_
  rintro x τ hn0 ⟨j, v, gb, ws, gs, rfl, W, w1⟩
  have iv := W.isL
  simp (config := {contextual := true, maxSteps := 1000000}) (disch := first | exact dB | fail) [go_sem, envOf, wrap_i64, int_lt, -Int.not_le, -Int.not_lt, Bool.decide_and, Bool.decide_or, and_assoc, Bool.and_assoc, Bool.or_assoc, Prod.exists, Prod.forall, -List.map_set, set_put, ord13, c0, c1, hN]
  (repeat refine Alt.mk ?_)
  refine callP_gen (fun σ1 => σ1.n = τ.n + 1 ∧ (∀ y, y < τ.n → σ1.get y = τ.get y) ∧ σ1.get τ.n = some ⟨[.sl j 0 ws.length 1, v], true⟩) ?_ ?_
  · exact ⟨by simp only [push_n'], fun y hy => push_get_lt hy, by (first | exact cGT | fail)⟩
  rintro σ1 ⟨m1, m2, m3⟩
  have W1 := W.frame (τ := σ1) (by omega) m2
  have jlt := W.hj
  have gv0 := W.hv.gv
  generalize hz5 : τ.n = z5 at m1 m2 m3
  refine callP_use (iWDoB_fn σ1 σ.n 60000 j v gb ws gs W1 n (by omega)) ?_
  rintro x τ2 hn2 ⟨f2, hx⟩
  have g5 := (f2 z5 (by omega)).trans m3
  have W2 := W1.frame (τ := τ2) hn2 f2
  have hxL : ∃ u1 u2, x = .agg [u1, u2] ∧ IsL u1 ∧ IsL u2 := by
    rcases hx with ⟨_, rfl⟩ | ⟨_, q, v', gb', gs', rfl, _, hX⟩
    · exact ⟨_, _, rfl, isL_nils, isL_nils⟩
    · exact ⟨_, _, rfl, isL_sl _ _ _ _, hX.isL⟩
  obtain ⟨u1, u2, rfl, iu1, iu2⟩ := hxL
  simp (config := {contextual := true, maxSteps := 1000000}) (disch := first | exact dB | fail) [go_sem, envOf, wrap_i64, int_lt, -Int.not_le, -Int.not_lt, Bool.decide_and, Bool.decide_or, and_assoc, Bool.and_assoc, Bool.or_assoc, Prod.exists, Prod.forall, -List.map_set, set_put, ord13, g5, hN]
  (repeat refine Alt.mk ?_)
  refine callP_gen (fun σ3 => σ3.n = τ2.n + 1 ∧ (∀ y, y < τ2.n → σ3.get y = τ2.get y) ∧ σ3.get τ2.n = some ⟨[u1, u2], true⟩) ?_ ?_
  · exact ⟨by simp only [push_n'], fun y hy => push_get_lt hy, by (first | exact cGT | fail)⟩
  rintro σ3 ⟨k1, k2, k3⟩
  generalize hz6 : τ2.n = z6 at k1 k3
  have W3 := W2.frame (τ := σ3) (by omega) k2
  have g5' := (k2 z5 (by omega)).trans g5
  refine callP_use (zWDoB_fn σ3 σ.n j v gb ws gs W3 n) ?_
  rintro y τ4 hn4 ⟨f4, hy⟩
  have W4 := W3.frame (τ := τ4) hn4 f4
  have p5 := (f4 z5 (by omega)).trans g5'
  have p6 := (f4 z6 (by omega)).trans k3
  have hyL : ∃ u1 u2, y = .agg [u1, u2] ∧ IsL u1 ∧ IsL u2 := by
    rcases hy with ⟨_, rfl⟩ | ⟨_, q, v', gb', gs', rfl, _, hX⟩
    · exact ⟨_, _, rfl, isL_nils, isL_nils⟩
    · exact ⟨_, _, rfl, isL_sl _ _ _ _, hX.isL⟩
  obtain ⟨t1, t2, rfl, it1, it2⟩ := hyL
  simp (config := {contextual := true, maxSteps := 1000000}) (disch := first | exact dB | fail) [go_sem, envOf, wrap_i64, int_lt, -Int.not_le, -Int.not_lt, Bool.decide_and, Bool.decide_or, and_assoc, Bool.and_assoc, Bool.or_assoc, Prod.exists, Prod.forall, -List.map_set, set_put, ord13, p5, p6, hN]
  (repeat refine Alt.mk ?_)
  have f24 : ∀ y, y < τ2.n → τ4.get y = τ2.get y := fun y hy => (f4 y (by omega)).trans (k2 y hy)
  have hsame : Fn Tryz.prog 38 [.agg [u1, u2], .agg [t1, t2]] τ4 fun x τ => x = .bool true ∧ (∀ y, y < τ4.n → τ.get y = τ4.get y) := by
    rcases hx with ⟨hP, hx⟩ | ⟨hP, q, v', gb', gs', hx, e1, X⟩
    · rcases hy with ⟨_, hy⟩ | ⟨hP', _⟩
      · simp only [AV.agg.injEq, List.cons.injEq, and_true] at hx hy
        obtain ⟨rfl, rfl⟩ := hx
        obtain ⟨rfl, rfl⟩ := hy
        exact whSame_fn τ4 _ _ _ _ [] [] [] .nil .nil (by simp) (.inl ⟨rfl, rfl⟩) (.inl ⟨rfl, rfl⟩) rfl (by simp) (by simp) (by simp)
      · exact absurd hP' hP
    · rcases hy with ⟨hP', _⟩ | ⟨_, q3, v3, gb3, gs3, hy, e3, Y⟩
      · exact absurd hP hP'
      · simp only [AV.agg.injEq, List.cons.injEq, and_true] at hx hy
        obtain ⟨rfl, rfl⟩ := hx
        obtain ⟨rfl, rfl⟩ := hy
        have X4 := X.frame (τ := τ4) (by omega) f24
        exact whSame_fn τ4 _ _ _ _ ws gs' gs3 (lsv_at X4.hj X4.hw rfl) (lsv_at Y.hj Y.hw rfl) W.len X4.hv.gv Y.hv.gv (by rw [e1, e3]) (by have := X4.m6; omega) X4.lens Y.lens
  refine callP_use hsame ?_
  rintro x τ5 hn5 ⟨rfl, f5⟩
  have W5 := W4.frame (τ := τ5) hn5 f5
  have r5 := (f5 z5 (by omega)).trans p5
  have r6 := (f5 z6 (by omega)).trans p6
  simp (config := {contextual := true, maxSteps := 1000000}) (disch := first | exact dB | fail) [go_sem, envOf, wrap_i64, int_lt, -Int.not_le, -Int.not_lt, Bool.decide_and, Bool.decide_or, and_assoc, Bool.and_assoc, Bool.or_assoc, Prod.exists, Prod.forall, -List.map_set, set_put, ord13, r5, r6, hN]
  (repeat refine Alt.mk ?_)
  refine ⟨by rw [if_pos hz6.symm]; exact p6.symm, ?_⟩
  refine callP_use (zWOkB_fn τ5 σ.n 60000 j v gb ws gs W5) ?_
  rintro x τ6 hn6 ⟨rfl, rfl⟩
  rcases hx with ⟨hP, hx⟩ | ⟨hP, q, v', gb', gs', hx, e1, X⟩
  · rw [decide_eq_false hP]
    simp (config := {contextual := true, maxSteps := 1000000}) (disch := first | exact dB | fail) [go_sem, envOf, wrap_i64, int_lt, -Int.not_le, -Int.not_lt, Bool.decide_and, Bool.decide_or, and_assoc, Bool.and_assoc, Bool.or_assoc, Prod.exists, Prod.forall, -List.map_set, set_put, ord13, r5, r6, hN]
    (repeat refine Alt.mk ?_)
    exact fin _
  rw [decide_eq_true hP]
  simp only [AV.agg.injEq, List.cons.injEq, and_true] at hx
  obtain ⟨rfl, rfl⟩ := hx
  have X6 := X.frame (τ := τ6) (by omega) (fun y hy => (f5 y (by omega)).trans (f24 y hy))
  have lv' := X6.hv.len
  have lv := W5.hv.len
  by_cases hl : gs'.length = gs.length
  · have hl2 : (gs'.length : Int) = gs.length := by omega
    simp (config := {contextual := true, maxSteps := 1000000}) (disch := first | exact dB | fail) [go_sem, envOf, wrap_i64, int_lt, -Int.not_le, -Int.not_lt, Bool.decide_and, Bool.decide_or, and_assoc, Bool.and_assoc, Bool.or_assoc, Prod.exists, Prod.forall, -List.map_set, set_put, ord13, r5, r6, hN, hl, hl2]
    (repeat refine Alt.mk ?_)
    exact fin _
  have hl2 : ¬ (gs'.length : Int) = gs.length := by omega
  have hwb : gs'.map (·.1) = gs.map (·.1) ++ [wFresh n] := by
    rw [e1]
    unfold wBorn
    by_cases hh : (gs.map (·.1)).length < 6 ∧ 0 ≤ n ∧ n < (check ws).1.slots
    · rw [if_pos hh]
    · exfalso
      unfold wBorn at e1
      rw [if_neg hh] at e1
      exact hl (by simpa using congrArg List.length e1)
  have hlen1 : gs'.length = gs.length + 1 := by simpa using congrArg List.length hwb
  have hv' := X6.hv
  cases hv' with
  | none => simp at hlen1
  | @some gb' m' gs' h0 h1 h2 h3 h4 =>
    obtain ⟨⟨g, sv, pv⟩, hx⟩ : ∃ x, gs'[gs.length]? = some x := ⟨gs'[gs.length]'(by omega), by simp⟩
    have hg : g = wFresh n := by
      have e2 : (gs'.map (·.1))[gs.length]? = some g := by simp [hx]
      rw [hwb] at e2
      simpa using e2.symm
    subst hg
    have hsub := gCells_sub hx
    have hlen : gs.length * 26 + 26 ≤ (gCells gs').length := by rw [gCells_len]; omega
    have hlt : gs.length < m' := by omega
    have hle : gs.length ≤ m' := by omega
    have hle2 : ¬ m' ≤ gs.length := by omega
    have hmn : ¬ m' = gs.length := by omega
    obtain ⟨ls, lp⟩ := X6.lens _ (List.mem_of_getElem? hx)
    have is1 := ls.isL
    have is2 := lp.isL
    simp (config := {contextual := true, maxSteps := 1000000}) (disch := first | exact dB | fail) [go_sem, envOf, wrap_i64, int_lt, -Int.not_le, -Int.not_lt, Bool.decide_and, Bool.decide_or, and_assoc, Bool.and_assoc, Bool.or_assoc, Prod.exists, Prod.forall, -List.map_set, set_put, ord13, r5, r6, hN, hl, hl2, h4, hsub, hlen, hlt, hle, hle2, hmn]
    (repeat refine Alt.mk ?_)
    have qlt := X.hj
    have gblt := X.gbn
    refine callP_gen (fun σ7 => σ7.n = τ6.n + 1 ∧ (∀ y, y < τ6.n → NE y z6 → σ7.get y = τ6.get y) ∧ σ7.get τ6.n = some ⟨gV (wFresh n) sv pv, true⟩) ?_ ?_
    · exact ⟨by simp only [push_n', set_n'], by intro y y1 y2; (first | exact cGT | fail), by (first | exact cGT | fail)⟩
    rintro σ7 ⟨o1, o2, o3⟩
    have ftot : ∀ y, y < z5 → σ7.get y = τ.get y := fun y hy => by
      rw [o2 y (by omega) (by simp only [NE]; omega), f5 y (by omega), f24 y (by omega), f2 y (by omega), m2 y hy]
    have f26 : ∀ y, y < z6 → σ7.get y = τ2.get y := fun y hy => by
      rw [o2 y (by omega) (by simp only [NE]; omega), f5 y (by omega), f24 y (by omega)]
    have hq7 := (f26 q (by omega)).trans X.hw
    have hj7 := (ftot j (by omega)).trans W.hw
    have hg7 : σ7.get gb' = some ⟨gCells gs', true⟩ := (f26 gb' (by omega)).trans (gb_get X.hv)
    have hs7 : Fn Tryz.prog 38 [.agg [.sl q 0 ws.length 1, .sl gb' 0 gs.length 26], .agg [.sl j 0 ws.length 1, v]] σ7 fun x τ => x = .bool true ∧ (∀ y, y < σ7.n → τ.get y = σ7.get y) := by
      refine whSame_fn σ7 _ _ _ _ ws (gs'.take gs.length) gs (lsv_at (by omega) hq7 rfl) (lsv_at (by omega) hj7 rfl) W.len (.inr ⟨gb', gCells (gs'.drop gs.length), ?_, by omega, ?_⟩) (gv0.frame (by omega) (fun y hy => ftot y (by omega))) ?_ ?_ (fun x hx => X6.lens x (List.mem_of_mem_take hx)) W.lens
      · simp; omega
      · rw [← gCells_app, List.take_append_drop]; exact hg7
      · rw [List.map_take, hwb, List.take_left' (by simp)]
      · have := X6.m6
        simp; omega
    refine callP_use hs7 ?_
    rintro x τ8 hn8 ⟨rfl, f8⟩
    have o8 := (f8 _ (by omega)).trans o3
    simp (config := {contextual := true, maxSteps := 1000000}) (disch := first | exact dB | fail) [go_sem, envOf, wrap_i64, int_lt, -Int.not_le, -Int.not_lt, Bool.decide_and, Bool.decide_or, and_assoc, Bool.and_assoc, Bool.or_assoc, Prod.exists, Prod.forall, -List.map_set, set_put, ord13, o8, hN, wFresh, Guest.zero]
    (repeat refine Alt.mk ?_)
    first | exact fin _ | trace_state
end AH
