import Derived.Test.YtagihpbpblnnoaaGreatQ50
import Derived.Test.YtagihpbpblnnoaaGreatQ53
set_option linter.all false
namespace AH
open Go Go.Proofs Ho
set_option maxRecDepth 20000
set_option maxHeartbeats 16000000
theorem iGNew_fn (σ : AHeap) (slot : Int) : Fn Tryz.prog 128 [.int .i64 slot] σ fun x τ => x = .agg (gV (if 0 ≤ slot ∧ slot < 4 then { Guest.zero with up := true, slot := slot } else Guest.zero) .nils .nils) ∧ τ = σ := by
  refine fn_pure ord0 mixed Tryz.func128 (by kernel_rfl) rfl (by kernel_rfl) (by rfl) ?_
  by_cases h : 0 ≤ slot ∧ slot < 4
  · obtain ⟨h1, h2⟩ := h
    have h3 : slot ≤ 3 := by omega
    simp (config := {contextual := true, maxSteps := 1000000}) (disch := first | exact dB | fail) [go_sem, envOf, wrap_i64, int_lt, -Int.not_le, -Int.not_lt, Bool.decide_and, Bool.decide_or, and_assoc, Bool.and_assoc, Bool.or_assoc, Prod.exists, Prod.forall, -List.map_set, set_put, h1, h2, h3, Guest.zero]
  · by_cases h1 : 0 ≤ slot
    · have h2 : ¬ slot < 4 := by omega
      have h3 : ¬ slot ≤ 3 := by omega
      simp (config := {contextual := true, maxSteps := 1000000}) (disch := first | exact dB | fail) [go_sem, envOf, wrap_i64, int_lt, -Int.not_le, -Int.not_lt, Bool.decide_and, Bool.decide_or, and_assoc, Bool.and_assoc, Bool.or_assoc, Prod.exists, Prod.forall, -List.map_set, set_put, h1, h2, h3, Guest.zero]
    · simp (config := {contextual := true, maxSteps := 1000000}) (disch := first | exact dB | fail) [go_sem, envOf, wrap_i64, int_lt, -Int.not_le, -Int.not_lt, Bool.decide_and, Bool.decide_or, and_assoc, Bool.and_assoc, Bool.or_assoc, Prod.exists, Prod.forall, -List.map_set, set_put, h1, Guest.zero]
@[go_sem] theorem iGNew_s (σ : AHeap) (slot : Int) (kk_ : AV → AHeap → Prop) : @callP Tryz.prog (.fn 128 [] []) [.int .i64 slot] σ ⟨kk_⟩ = @Alt (kk_ (.agg (gV (if 0 ≤ slot ∧ slot < 4 then { Guest.zero with up := true, slot := slot } else Guest.zero) .nils .nils)) σ) ⟨@callP Tryz.prog (.fn 128 [] []) [.int .i64 slot] σ ⟨kk_⟩⟩ := callP_alt (iGNew_fn σ slot)
theorem iCfg_fn (σ : AHeap) (z j nw : Nat) (v : AV) (ws : List Int) (hz : σ.get z = some ⟨[.sl j 0 nw 1, v], true⟩) (hzn : z < σ.n) (hj : j < σ.n) (hw : σ.get j = some ⟨ws.map (.int .u64), true⟩) (hl : ws.length = nw) (hW : ∀ w ∈ ws, isW w) (hv : IsL v) : Fn Tryz.prog 104 [.ptr z 0] σ fun x τ => x = cV (check ws).1.slots (check ws).1.pages (check ws).1.lease ∧ τ = σ := by
  refine fn_pure ord0 mixed Tryz.func104 (by kernel_rfl) rfl (by kernel_rfl) (by rfl) ?_
  simp (config := {contextual := true, maxSteps := 1000000}) (disch := first | exact dB | fail) [go_sem, envOf, wrap_i64, int_lt, -Int.not_le, -Int.not_lt, Bool.decide_and, Bool.decide_or, and_assoc, Bool.and_assoc, Bool.or_assoc, Prod.exists, Prod.forall, -List.map_set, set_put, hz]
@[go_sem] theorem iCfg_s (σ : AHeap) (z j nw : Nat) (v : AV) (ws : List Int) (hz : σ.get z = some ⟨[.sl j 0 nw 1, v], true⟩) (hzn : z < σ.n) (hj : j < σ.n) (hw : σ.get j = some ⟨ws.map (.int .u64), true⟩) (hl : ws.length = nw) (hW : ∀ w ∈ ws, isW w) (hv : IsL v) (kk_ : AV → AHeap → Prop) : @callP Tryz.prog (.fn 104 [] []) [.ptr z 0] σ ⟨kk_⟩ = @Alt (kk_ (cV (check ws).1.slots (check ws).1.pages (check ws).1.lease) σ) ⟨@callP Tryz.prog (.fn 104 [] []) [.ptr z 0] σ ⟨kk_⟩⟩ := callP_alt (iCfg_fn σ z j nw v ws hz hzn hj hw hl hW hv)
theorem WAt.newGS {σ τ : AHeap} {lo : Nat} {B : Int} {j : Nat} {v : AV} {gb : Nat} {ws : List Int} {gs : List (Guest × AV × AV)} (h : WAt σ lo B j v gb ws gs) {gb' z : Nat} {g' : Guest} (hn : σ.n ≤ τ.n) (hb : σ.n ≤ gb' ∧ gb' < τ.n) (hg : τ.get gb' = some ⟨gCells (gs ++ [(g', .nils, .nils)]), true⟩) (hW : GI B g') (hI : Idl g') (hs : g'.snap = []) (hp : g'.plan = []) (h6 : gs.length < 6)
    (hz : NE j z) (ha : Apt z gs) (hf : ∀ y, lo ≤ y → y < σ.n → NE y z → τ.get y = σ.get y) : WAt τ lo B j (.sl gb' 0 (gs.length + 1) 26) gb' ws (gs ++ [(g', .nils, .nils)]) := by
  obtain ⟨a1, a2, a3, a4, a5, a6, l2, a7, a8, a9, a0⟩ := h
  refine ⟨by omega, (hf j a3 a1 hz).trans a2, a3, by omega, a5, a6, l2, by simp; omega, .some (by simp) (by omega) hb.2 (by simp only [NE]; omega) hg, fun x hx => ?_, a0⟩
  rcases List.mem_append.1 hx with hx | hx
  · have hh := (a9 x hx).weakF hn (ha x hx) hf (j' := j) (gb' := gb') (.inl rfl) (.inr (.inr hb.1))
    exact ⟨(a9 x hx).gi, hh.s, hh.p, hh.sj, hh.pj, hh.sg, hh.pg, hh.sl, hh.pl, hh.idl⟩
  · obtain rfl := List.mem_singleton.1 hx
    exact ⟨hW, by simp only [hs]; exact .nil, by simp only [hp]; exact .nil, .inr rfl, .inr rfl, .inr rfl, .inr rfl, .inr rfl, .inr rfl, hI⟩
theorem wat2 {σ τ : AHeap} {lo : Nat} {B : Int} {j : Nat} {v : AV} {gb : Nat} {ws : List Int} {gs : List (Guest × AV × AV)} (h : WAt σ lo B j v gb ws gs) {gb' z z2 : Nat} (haz : Apt z gs) {g' : Guest} (hn : σ.n ≤ τ.n) (hb : σ.n ≤ gb' ∧ gb' < τ.n) (hg : τ.get gb' = some ⟨gCells (gs ++ [(g', .nils, .nils)]), true⟩) (hW : GI B g') (hI : Idl g') (hs : g'.snap = []) (hp : g'.plan = []) (h6 : gs.length < 6)
    (hz : NE j z) (hz2 : NE j z2) (ha : Apt z2 gs) (hf : ∀ y, lo ≤ y → y < σ.n → NE y z → NE y z2 → τ.get y = σ.get y) : WAt τ lo B j (.sl gb' 0 (gs.length + 1) 26) gb' ws (gs ++ [(g', .nils, .nils)]) := by
  obtain ⟨a1, a2, a3, a4, a5, a6, l2, a7, a8, a9, a0⟩ := h
  refine ⟨by omega, (hf j a3 a1 hz hz2).trans a2, a3, by omega, a5, a6, l2, by simp; omega, .some (by simp) (by omega) hb.2 (by simp only [NE]; omega) hg, fun x hx => ?_, a0⟩
  rcases List.mem_append.1 hx with hx | hx
  · have hh := a9 x hx
    have go : ∀ (w : AV) (l : List Int), LsV .u64 σ w l → (lo ≤ bOf w ∨ w = .nils) → ApV w z → ApV w z2 → LsV .u64 τ w l := by
      intro w l hw b1 b2 b3
      rcases hw.ex with ⟨rfl, rfl⟩ | ⟨i, k, rfl, hi, Bk, hb', hc⟩
      · exact .nil
      · rcases b1 with b1 | b1
        · rcases b2 with b2 | b2
          · rcases b3 with b3 | b3
            · simp only [bOf] at b1 b2 b3
              exact .mk' ⟨by omega, Bk, by rw [hf i b1 hi b2 b3]; exact hb', hc⟩
            · cases b3
          · cases b2
        · cases b1
    exact ⟨hh.gi, go _ _ hh.s hh.sl (haz x hx).1 (ha x hx).1, go _ _ hh.p hh.pl (haz x hx).2 (ha x hx).2, hh.sj, hh.pj, Ls_ap hh.s hb.1, Ls_ap hh.p hb.1, hh.sl, hh.pl, hh.idl⟩
  · obtain rfl := List.mem_singleton.1 hx
    exact ⟨hW, by simp only [hs]; exact .nil, by simp only [hp]; exact .nil, .inr rfl, .inr rfl, .inr rfl, .inr rfl, .inr rfl, .inr rfl, hI⟩
theorem iDoBorn_fn (σ : AHeap) (z lo : Nat) (B : Int) (j : Nat) (v : AV) (gb : Nat) (ws : List Int) (gs : List (Guest × AV × AV)) (h : WAt σ lo B j v gb ws gs) (hz : σ.get z = some ⟨[.sl j 0 ws.length 1, v], true⟩) (hzn : z < σ.n) (hlz : z ≠ j ∧ z ≠ gb) (haz : Apt z gs) (n : Int) (hB : 1 ≤ B) :
    Fn Tryz.prog 67 [.ptr z 0, .agg (evV ⟨1, 0, n, 0, 0, 0⟩), .fn 68 [] []] σ fun x τ => ∃ v' gb' gs', gs'.map (·.1) = wBorn ws (gs.map (·.1)) n ∧ WAt τ lo B j v' gb' ws gs' ∧ τ.get z = some ⟨[.sl j 0 ws.length 1, v'], true⟩ ∧ (∀ y, y < σ.n → NE y z → NE y j → NE y gb → τ.get y = σ.get y) := by
  generalize hG : (fun (x : AV) (τ : AHeap) => ∃ v' gb' gs', gs'.map (·.1) = wBorn ws (gs.map (·.1)) n ∧ WAt τ lo B j v' gb' ws gs' ∧ τ.get z = some ⟨[.sl j 0 ws.length 1, v'], true⟩ ∧ (∀ y, y < σ.n → NE y z → NE y j → NE y gb → τ.get y = σ.get y)) = GG
  have iv := h.isL
  obtain ⟨⟨r1, r2⟩, ⟨r3, r4⟩, r5, r6⟩ := check_rng ws
  have hj := h.hj
  have hw := h.hw
  have hWw := h.W
  have m6 := h.m6
  refine fn_of ord67 mixed Tryz.func67 (by kernel_rfl) rfl (by kernel_rfl) ?_
  generalize hC : (check ws).1 = C at *
  have keep : ∀ X, wBorn ws (gs.map (·.1)) n = gs.map (·.1) → GG (.tup []) (σ.push X) := by
    intro X hb
    rw [← hG]
    exact ⟨v, gb, gs, hb.symm, h.frame (by simp only [push_n']; omega) (fun y hy => push_get_lt hy), (push_get_lt hzn).trans hz, fun y hy _ _ _ => push_get_lt hy⟩
  by_cases c1 : 0 ≤ n
  rotate_left
  · simp (config := {contextual := true, maxSteps := 1000000}) (disch := first | exact dB | fail) [go_sem, envOf, wrap_i64, int_lt, -Int.not_le, -Int.not_lt, Bool.decide_and, Bool.decide_or, and_assoc, Bool.and_assoc, Bool.or_assoc, Prod.exists, Prod.forall, -List.map_set, set_put, ord67, hz, c1, hC]
    (repeat refine Alt.mk ?_)
    exact keep _ (by unfold wBorn; rw [if_neg (fun hh => c1 hh.2.1)])
  by_cases c2 : n ≤ C.slots - 1
  rotate_left
  · simp (config := {contextual := true, maxSteps := 1000000}) (disch := first | exact dB | fail) [go_sem, envOf, wrap_i64, int_lt, -Int.not_le, -Int.not_lt, Bool.decide_and, Bool.decide_or, and_assoc, Bool.and_assoc, Bool.or_assoc, Prod.exists, Prod.forall, -List.map_set, set_put, ord67, hz, c1, c2, hC]
    (repeat refine Alt.mk ?_)
    exact keep _ (by unfold wBorn; rw [hC, if_neg (fun hh => c2 (by omega))])
  have s4 : ¬ 4 ≤ n := by omega
  have s5 : n < 4 := by omega
  have hgb := h.gbn
  cases h.hv with
  | none =>
    simp (config := {contextual := true, maxSteps := 1000000}) (disch := first | exact dB | fail) [go_sem, envOf, wrap_i64, int_lt, -Int.not_le, -Int.not_lt, Bool.decide_and, Bool.decide_or, and_assoc, Bool.and_assoc, Bool.or_assoc, Prod.exists, Prod.forall, -List.map_set, set_put, ord67, hz, c1, c2, hC, s4, s5, Guest.zero]
    (repeat refine Alt.mk ?_)
    rw [← hG]
    have hwb : wBorn ws (List.map (·.1) ([] : List (Guest × AV × AV))) n = [wFresh n] := by
      unfold wBorn
      rw [hC, if_pos ⟨by simp, c1, by omega⟩]
      rfl
    have hfresh := fresh_GI (B := B) (k := n) hB (by omega)
    refine ⟨_, σ.n + 1 + 1, [] ++ [(wFresh n, .nils, .nils)], (by rw [hwb]; rfl), h.newGS (gb' := σ.n + 1 + 1) (z := z) (g' := wFresh n) (by simp only [push_n', set_n']; omega) ⟨by omega, by simp only [push_n', set_n']; omega⟩ ?_ hfresh (fun _ => rfl) rfl rfl (by simp) (Ne.symm hlz.1) haz (fun y z1 z2 z3 => ?_), ?_, fun y z1 z2 z3 z5 => ?_⟩
    · show _ = some (ABlk.mk (gV (wFresh n) .nils .nils ++ []) true)
      simp only [List.append_nil]
      (first | exact cGT | fail)
    · (first | exact cGT | fail)
    · (first | exact cGT | fail)
    · (first | exact cGT | fail)
  | @some gb m gs h0 h1 h2 h3 h4 =>
    by_cases c3 : m < 6
    · have h6 : ¬ 6 ≤ (m : Int) := by omega
      have hm1 : m ≤ 1000 := by omega
      simp (config := {contextual := true, maxSteps := 1000000}) (disch := first | exact dB | fail) [go_sem, envOf, wrap_i64, int_lt, -Int.not_le, -Int.not_lt, Bool.decide_and, Bool.decide_or, and_assoc, Bool.and_assoc, Bool.or_assoc, Prod.exists, Prod.forall, -List.map_set, set_put, ord67, hz, c1, c2, hC, c3, h6, h4, s4, s5, hm1, Guest.zero]
      (repeat refine Alt.mk ?_)
      rw [← hG]
      have hwb : wBorn ws (gs.map (·.1)) n = gs.map (·.1) ++ [wFresh n] := by
        unfold wBorn
        rw [hC, if_pos ⟨by simp; omega, c1, by omega⟩]
      have hfresh := fresh_GI (B := B) (k := n) hB (by omega)
      have hA : Apt gb gs := by
        intro x hx
        exact ⟨(h.G x hx).sg, (h.G x hx).pg⟩
      subst h0
      have hz2 : z ≠ gb := hlz.2
      refine ⟨_, σ.n + 1 + 1, gs ++ [(wFresh n, .nils, .nils)], by rw [hwb]; simp, wat2 h haz (gb' := σ.n + 1 + 1) (z := z) (z2 := gb) (g' := wFresh n) (by simp only [push_n', set_n', kill_n']; omega) ⟨by omega, by simp only [push_n', set_n', kill_n']; omega⟩ ?_ hfresh (fun _ => rfl) rfl rfl (by omega) (Ne.symm hlz.1) (NE.sw h3) hA (fun y z1 z2 z3 z5 => ?_), ?_, fun y z1 z2 z3 z5 => ?_⟩
      · rw [← gCells_snoc]
        (first | exact cGT | fail)
      · (first | exact cGT | fail)
      · (first | exact cGT | fail)
      · (first | exact cGT | fail)
    · have h6 : 6 ≤ (m : Int) := by omega
      simp (config := {contextual := true, maxSteps := 1000000}) (disch := first | exact dB | fail) [go_sem, envOf, wrap_i64, int_lt, -Int.not_le, -Int.not_lt, Bool.decide_and, Bool.decide_or, and_assoc, Bool.and_assoc, Bool.or_assoc, Prod.exists, Prod.forall, -List.map_set, set_put, ord67, hz, c1, c2, hC, c3, h6]
      (repeat refine Alt.mk ?_)
      exact keep _ (by unfold wBorn; rw [if_neg (fun hh => by have := hh.1; simp at this; omega)])
theorem iWDoB_fn (σ : AHeap) (lo : Nat) (B : Int) (j : Nat) (v : AV) (gb : Nat) (ws : List Int) (gs : List (Guest × AV × AV)) (h : WBt σ lo B j v gb ws gs) (n : Int) (hB : 1 ≤ B) :
    Fn Tryz.prog 18 [.agg [.sl j 0 ws.length 1, v], .agg (evV ⟨1, 0, n, 0, 0, 0⟩)] σ fun x τ => (∀ y, y < σ.n → τ.get y = σ.get y) ∧ ((¬ worldP ws (gs.map (·.1)) ∧ x = .agg [.nils, .nils]) ∨ (worldP ws (gs.map (·.1)) ∧ ∃ q v' gb' gs', x = .agg [.sl q 0 ws.length 1, v'] ∧ gs'.map (·.1) = wBorn ws (gs.map (·.1)) n ∧ WAt τ σ.n B q v' gb' ws gs')) := by
  generalize hG : (fun (x : AV) (τ : AHeap) => (∀ y, y < σ.n → τ.get y = σ.get y) ∧ ((¬ worldP ws (gs.map (·.1)) ∧ x = AV.agg [.nils, .nils]) ∨ (worldP ws (gs.map (·.1)) ∧ ∃ q v' gb' gs', x = AV.agg [.sl q 0 ws.length 1, v'] ∧ gs'.map (·.1) = wBorn ws (gs.map (·.1)) n ∧ WAt τ σ.n B q v' gb' ws gs'))) = GG
  have iv := h.isL
  refine fn_of ord0 mixed Tryz.func18 (by kernel_rfl) rfl (by kernel_rfl) ?_
  simp (config := {contextual := true, maxSteps := 1000000}) (disch := first | exact dB | fail) [go_sem, envOf, wrap_i64, int_lt, -Int.not_le, -Int.not_lt, Bool.decide_and, Bool.decide_or, and_assoc, Bool.and_assoc, Bool.or_assoc, Prod.exists, Prod.forall, -List.map_set, set_put]
  (repeat refine Alt.mk ?_)
  refine callP_gen (fun σ1 => σ1.n = σ.n + 1 + 1 + 1 ∧ (∀ y, y < σ.n → σ1.get y = σ.get y) ∧ σ1.get σ.n = some ⟨[.sl j 0 ws.length 1, v], true⟩ ∧ σ1.get (σ.n + 1) = some ⟨evV ⟨1, 0, n, 0, 0, 0⟩, true⟩ ∧ σ1.get (σ.n + 1 + 1) = some ⟨[.nils, .nils], true⟩) ?_ ?_
  · exact ⟨by simp only [push_n', set_n'], by first | exact cKP | fail, by (first | exact cGT | fail), by (first | exact cGT | fail), by (first | exact cGT | fail)⟩
  rintro σ1 ⟨x1, x2, x3, x4, x5⟩
  have h1 := h.frame (τ := σ1) (by omega) x2
  refine callP_use (iWOk_fn σ1 lo B j v gb ws gs h1) ?_
  rintro x τ hn ⟨rfl, rfl⟩
  by_cases hP : worldP ws (gs.map (·.1))
  rotate_left
  · rw [decide_eq_false hP]
    simp (config := {contextual := true, maxSteps := 1000000}) (disch := first | exact dB | fail) [go_sem, envOf, wrap_i64, int_lt, -Int.not_le, -Int.not_lt, Bool.decide_and, Bool.decide_or, and_assoc, Bool.and_assoc, Bool.or_assoc, Prod.exists, Prod.forall, -List.map_set, set_put, x3, x4, x5]
    (repeat refine Alt.mk ?_)
    rw [← hG]
    refine ⟨fun y hy => ?_, .inl ⟨hP, rfl⟩⟩
    first | exact x2 y hy | (rw [set_get_ne (by omega)]; exact x2 y hy)
  rw [decide_eq_true hP]
  have W1 := h1.ok hP
  simp (config := {contextual := true, maxSteps := 1000000}) (disch := first | exact dB | fail) [go_sem, envOf, wrap_i64, int_lt, -Int.not_le, -Int.not_lt, Bool.decide_and, Bool.decide_or, and_assoc, Bool.and_assoc, Bool.or_assoc, Prod.exists, Prod.forall, -List.map_set, set_put, x3, x4, x5]
  (repeat refine Alt.mk ?_)
  refine callP_use (iOwn_fn τ lo B j v gb ws gs W1) ?_
  rintro x τ2 hn2 ⟨q, v', q', gs', rfl, a1, a2, a3⟩
  have iv' := a2.isL
  have y4 := (a3 _ (by omega)).trans x4
  have y5 := (a3 _ (by omega)).trans x5
  simp (config := {contextual := true, maxSteps := 1000000}) (disch := first | exact dB | fail) [go_sem, envOf, wrap_i64, int_lt, -Int.not_le, -Int.not_lt, Bool.decide_and, Bool.decide_or, and_assoc, Bool.and_assoc, Bool.or_assoc, Prod.exists, Prod.forall, -List.map_set, set_put, y4, y5]
  (repeat refine Alt.mk ?_)
  have hq1 := a2.hj
  have hq2 := a2.gbn
  have hq3 := a2.lj
  have hq4 := a2.lg
  refine callP_gen (fun σ3 => σ3.n = τ2.n + 1 ∧ (∀ y, y < τ2.n → σ3.get y = τ2.get y) ∧ σ3.get τ2.n = some ⟨[.sl q 0 ws.length 1, v'], true⟩) ?_ ?_
  · exact ⟨by simp only [push_n'], fun y hy => push_get_lt hy, by (first | exact cGT | fail)⟩
  rintro σ3 ⟨m1, m2, m3⟩
  have W3 := a2.frame (τ := σ3) (by omega) m2
  refine callP_use (iDoBorn_fn σ3 τ2.n τ.n B q v' q' ws gs' W3 m3 (by omega) ⟨by omega, by omega⟩ (a2.apt (Nat.le_refl _)) n hB) ?_
  rintro x τ4 hn4 ⟨v2, gb2, gs2, b1, b2, b3, b4⟩
  have iv2 := b2.isL
  have z5 : τ4.get (σ.n + 1 + 1) = some ⟨[.nils, .nils], true⟩ := (b4 _ (by omega) (by simp only [NE]; omega) (by simp only [NE]; omega) (by simp only [NE]; omega)).trans ((m2 _ (by omega)).trans y5)
  simp (config := {contextual := true, maxSteps := 1000000}) (disch := first | exact dB | fail) [go_sem, envOf, wrap_i64, int_lt, -Int.not_le, -Int.not_lt, Bool.decide_and, Bool.decide_or, and_assoc, Bool.and_assoc, Bool.or_assoc, Prod.exists, Prod.forall, -List.map_set, set_put, b3]
  (repeat refine Alt.mk ?_)
  refine callP_use (iOwn_fn τ4 τ.n B q v2 gb2 ws gs2 b2) ?_
  rintro x τ5 hn5 ⟨q3, v3, gb3, gs3, rfl, c1, c2, c3⟩
  have iv3 := c2.isL
  have w5 := (c3 _ (by omega)).trans z5
  simp (config := {contextual := true, maxSteps := 1000000}) (disch := first | exact dB | fail) [go_sem, envOf, wrap_i64, int_lt, -Int.not_le, -Int.not_lt, Bool.decide_and, Bool.decide_or, and_assoc, Bool.and_assoc, Bool.or_assoc, Prod.exists, Prod.forall, -List.map_set, set_put, w5]
  (repeat refine Alt.mk ?_)
  rw [← hG]
  refine ⟨fun y hy => ?_, .inr ⟨hP, q3, v3, gb3, gs3, rfl, by rw [c1, b1, a1], ?_⟩⟩
  · rw [set_get_ne (by omega), c3 y (by omega), b4 y (by omega) (by simp only [NE]; omega) (by simp only [NE]; omega) (by simp only [NE]; omega), m2 y (by omega), a3 y (by omega), x2 y hy]
  · exact (c2.past (z := σ.n + 1 + 1) (by omega) (by simp only [set_n']; omega) (fun y q1 q2 => set_get_ne q2.ne)).low (by omega)
end AH
/- CONTRACTS OF THE LAWS: two worlds stand the same. -/
namespace AH
open Go Go.Proofs Ho
set_option maxRecDepth 20000
set_option maxHeartbeats 16000000
/-- A slice of guests, the first of its block. -/
def GV (σ : AHeap) (v : AV) (gs : List (Guest × AV × AV)) : Prop := (v = .nils ∧ gs = []) ∨ ∃ gb r, v = .sl gb 0 gs.length 26 ∧ gb < σ.n ∧ σ.get gb = some ⟨gCells gs ++ r, true⟩
theorem gCells_subR {gs : List (Guest × AV × AV)} {r : List AV} {i : Nat} {x : Guest × AV × AV} (h : gs[i]? = some x) : ((gCells gs ++ r).drop (i * 26)).take 26 = gV x.1 x.2.1 x.2.2 := by
  have hi : i < gs.length := by
    rcases Nat.lt_or_ge i gs.length with h' | h'
    · exact h'
    · rw [List.getElem?_eq_none h'] at h; cases h
  have hl := gCells_len gs
  rw [List.drop_append_of_le_length (by omega), List.take_append_of_le_length (by simp; omega)]
  exact gCells_sub h
theorem op_stood : Tryz.prog.stoodInHeld 42 = false := by kernel_rfl
theorem op_guard : Tryz.prog.eqGuardType Tryz.prog.depth 42 = false := by kernel_rfl
theorem op_same (a b c d : Int) : abin Tryz.prog .neq 42 (.agg [.int .i64 a, .int .i64 b, .int .i64 c, .int .i64 d]) (.agg [.int .i64 a, .int .i64 b, .int .i64 c, .int .i64 d]) = some (.bool false) := by
  simp [abin, aeqS, aeqList, aeq0, Tryz.underlying42, Tryz.underlying3, op_stood, op_guard]
theorem whSame_fn (σ : AHeap) (a1 a2 v1 v2 : AV) (ws : List Int) (g1 g2 : List (Guest × AV × AV)) (hw1 : LsV .u64 σ a1 ws) (hw2 : LsV .u64 σ a2 ws) (hl : (ws.length : Int) ≤ 1000000) (hv1 : GV σ v1 g1) (hv2 : GV σ v2 g2) (hm : g1.map (·.1) = g2.map (·.1)) (h7 : g1.length ≤ 7)
    (hL1 : ∀ x ∈ g1, LenIs x.2.1 x.1.snap.length ∧ LenIs x.2.2 x.1.plan.length) (hL2 : ∀ x ∈ g2, LenIs x.2.1 x.1.snap.length ∧ LenIs x.2.2 x.1.plan.length) :
    Fn Tryz.prog 38 [.agg [a1, v1], .agg [a2, v2]] σ fun x τ => x = .bool true ∧ (∀ y, y < σ.n → τ.get y = σ.get y) := by
  generalize hG : (fun (x : AV) (τ : AHeap) => x = AV.bool true ∧ (∀ y, y < σ.n → τ.get y = σ.get y)) = GG
  have fin : ∀ τ : AHeap, (∀ y, y < σ.n → τ.get y = σ.get y) → GG (.bool true) τ := fun τ h => by rw [← hG]; exact ⟨rfl, h⟩
  clear hG
  have i1 := hw1.isL
  have i2 := hw2.isL
  have i3 : IsL v1 := by rcases hv1 with ⟨rfl, _⟩ | ⟨gb, r, rfl, _⟩; exact isL_nils; exact isL_sl _ _ _ _
  have i4 : IsL v2 := by rcases hv2 with ⟨rfl, _⟩ | ⟨gb, r, rfl, _⟩; exact isL_nils; exact isL_sl _ _ _ _
  have hml : g1.length = g2.length := by simpa using congrArg List.length hm
  have le1 : LenIs v1 g1.length := by rcases hv1 with ⟨rfl, rfl⟩ | ⟨gb, r, rfl, _⟩; exact .inl ⟨rfl, rfl⟩; exact .inr ⟨_, _, _, rfl⟩
  have le2 : LenIs v2 g1.length := by rcases hv2 with ⟨rfl, rfl⟩ | ⟨gb, r, rfl, _⟩; exact .inl ⟨rfl, hml⟩; exact .inr ⟨_, _, _, by rw [hml]⟩
  refine fn_of ord38 mixed Tryz.func38 (by kernel_rfl) rfl (by kernel_rfl) ?_
  simp (config := {contextual := true, maxSteps := 1000000}) (disch := first | exact dB | fail) [go_sem, envOf, wrap_i64, int_lt, -Int.not_le, -Int.not_lt, Bool.decide_and, Bool.decide_or, and_assoc, Bool.and_assoc, Bool.or_assoc, Prod.exists, Prod.forall, -List.map_set, set_put, ord38]
  (repeat refine Alt.mk ?_)
  refine aloops_lt (fun R_ env τ => ∃ (u : Int), env 2 = .ptr σ.n 0 ∧ env 3 = .ptr (σ.n + 1) 0 ∧ env 5 = .int .i64 u ∧ (σ.push ⟨[a1, v1], true⟩).push ⟨[a2, v2], true⟩ = τ ∧ R_ ((ws.length - u).toNat) ∧ (0 ≤ u ∧ u ≤ ws.length)) (by rintro R_ env τ ⟨u, e2, e3, e5, h_, hR_, hp⟩; exact ⟨_, hR_, u, e2, e3, e5, h_, rfl, hp⟩) ⟨0, by first | rfl | simp [put_get, *], by first | rfl | simp [put_get, *], by first | rfl | simp [put_get, *], rfl, trivial, ?_⟩ ?_
  rotate_left
  rintro m_ env τ ⟨u, e2, e3, e5, rfl, rfl, hp⟩
  · by_cases hu : u < ws.length
    · simp (config := {contextual := true, maxSteps := 1000000}) (disch := first | exact dB | fail) [go_sem, envOf, wrap_i64, int_lt, -Int.not_le, -Int.not_lt, Bool.decide_and, Bool.decide_or, and_assoc, Bool.and_assoc, Bool.or_assoc, Prod.exists, Prod.forall, -List.map_set, set_put, ord38, e2, e3, e5, hu]
      (repeat refine Alt.mk ?_)
      exact ⟨by omega, by omega, by omega⟩
    · simp (config := {contextual := true, maxSteps := 1000000}) (disch := first | exact dB | fail) [go_sem, envOf, wrap_i64, int_lt, -Int.not_le, -Int.not_lt, Bool.decide_and, Bool.decide_or, and_assoc, Bool.and_assoc, Bool.or_assoc, Prod.exists, Prod.forall, -List.map_set, set_put, ord38, e2, e3, e5, hu]
      (repeat refine Alt.mk ?_)
      refine aloops_gen (fun τ => τ.get σ.n = some ⟨[a1, v1], true⟩ ∧ τ.get (σ.n + 1) = some ⟨[a2, v2], true⟩ ∧ (∀ y, y < σ.n → τ.get y = σ.get y) ∧ σ.n + 1 < τ.n) ?_ ?_
      · exact ⟨by (first | exact cGT | fail), by (first | exact cGT | fail), by first | exact cKP | fail, by simp only [push_n']; omega⟩
      intro τ0 ⟨t1, t2, t3, t4⟩
      clear hp e5 hu
      refine aloops_lt (fun R_ env τ => ∃ (u : Nat), env 2 = .ptr σ.n 0 ∧ env 3 = .ptr (σ.n + 1) 0 ∧ env 6 = .int .i64 u ∧ R_ (g1.length - u) ∧ (τ.get σ.n = some ⟨[a1, v1], true⟩) ∧ (τ.get (σ.n + 1) = some ⟨[a2, v2], true⟩) ∧ (∀ y, y < σ.n → τ.get y = σ.get y) ∧ (σ.n + 1 < τ.n) ∧ (u ≤ g1.length)) (by rintro R_ env τ ⟨u, e2, e3, e6, hR_, g0, g1', hk, hn, um⟩; exact ⟨_, hR_, u, e2, e3, e6, rfl, g0, g1', hk, hn, um⟩) ⟨0, by first | rfl | simp [put_get, *], by first | rfl | simp [put_get, *], by first | rfl | simp [put_get, *], trivial, ?_, ?_, ?_, ?_, ?_⟩ ?_
      rotate_left 5
      rintro m_ env τ ⟨u, e2, e3, e6, rfl, g0, g1', hk, hn, um⟩
      · by_cases hu : u < g1.length
        · have hu2 : ¬ g1.length ≤ u := by omega
          obtain ⟨⟨g, sv, pv⟩, hx⟩ : ∃ x, g1[u]? = some x := ⟨g1[u]'(by omega), by simp⟩
          obtain ⟨⟨g', sv', pv'⟩, hx'⟩ : ∃ x, g2[u]? = some x := ⟨g2[u]'(by omega), by simp⟩
          have hgg : g' = g := by
            have e1 : (g1.map (·.1))[u]? = some g := by simp [hx]
            rw [hm] at e1
            simpa [hx'] using e1
          subst hgg
          obtain ⟨l1, l2⟩ := hL1 _ (List.mem_of_getElem? hx)
          obtain ⟨l3, l4⟩ := hL2 _ (List.mem_of_getElem? hx')
          rcases hv1 with ⟨rfl, rfl⟩ | ⟨b1, r1, rfl, b2, b3⟩
          · simp at hu
          rcases hv2 with ⟨rfl, rfl⟩ | ⟨c1, r2, rfl, c2, c3⟩
          · have : g1.length = 0 := hml
            omega
          have hs1 := gCells_subR (r := r1) hx
          have hs2 := gCells_subR (r := r2) hx'
          have hl1 : u * 26 + 26 ≤ (gCells g1).length + r1.length := by rw [gCells_len]; omega
          have hl2 : u * 26 + 26 ≤ (gCells g2).length + r2.length := by rw [gCells_len]; omega
          have hb3 : τ.get b1 = _ := (hk _ b2).trans b3
          have hc3 : τ.get c1 = _ := (hk _ c2).trans c3
          have j1 := l1.isL
          have j2 := l2.isL
          have j3 := l3.isL
          have j4 := l4.isL
          have hum : u < g2.length := by omega
          rw [← hml] at *
          simp (config := {contextual := true, maxSteps := 1000000}) (disch := first | exact dB | fail) [go_sem, envOf, wrap_i64, int_lt, -Int.not_le, -Int.not_lt, Bool.decide_and, Bool.decide_or, and_assoc, Bool.and_assoc, Bool.or_assoc, Prod.exists, Prod.forall, -List.map_set, set_put, ord38, e2, e3, e6, g0, g1', hb3, hc3, hs1, hs2, hl1, hl2, hu, hu2, op_same]
          (repeat refine Alt.mk ?_)
          exact ⟨u + 1, by omega, by omega, hk, by omega, by omega⟩
        · have hu2 : g1.length ≤ u := by omega
          simp (config := {contextual := true, maxSteps := 1000000}) (disch := first | exact dB | fail) [go_sem, envOf, wrap_i64, int_lt, -Int.not_le, -Int.not_lt, Bool.decide_and, Bool.decide_or, and_assoc, Bool.and_assoc, Bool.or_assoc, Prod.exists, Prod.forall, -List.map_set, set_put, ord38, e2, e3, e6, g0, g1', hu, hu2]
          (repeat refine Alt.mk ?_)
          exact fin _ hk
      · exact t1
      · exact t2
      · exact t3
      · exact t4
      · omega
  · omega
end AH
