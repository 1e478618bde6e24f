import Derived.Test.YtagihpbpblnnoaaGreatD50
import Derived.Test.YtagihpbpblnnoaaGreatD53
set_option linter.all false
namespace AH
open Go Go.Proofs Ho
set_option maxRecDepth 20000
set_option maxHeartbeats 16000000
theorem iGNew_fn (σ : AHeap) (slot : Int) : Fn Tryz.prog 128 [.int .i64 slot] σ fun x τ => x = .agg (gV (if 0 ≤ slot ∧ slot < 4 then { Guest.zero with up := true, slot := slot } else Guest.zero) .nils .nils) ∧ τ = σ := by
  refine fn_pure ord0 mixed Tryz.func128 (by kernel_rfl) rfl (by kernel_rfl) (by rfl) ?_
  by_cases h : 0 ≤ slot ∧ slot < 4
  · obtain ⟨h1, h2⟩ := h
    have h3 : slot ≤ 3 := by omega
    simp (config := {contextual := true, maxSteps := 1000000}) (disch := first | exact dB | fail) [go_sem, envOf, wrap_i64, int_lt, -Int.not_le, -Int.not_lt, Bool.decide_and, Bool.decide_or, and_assoc, Bool.and_assoc, Bool.or_assoc, Prod.exists, Prod.forall, -List.map_set, set_put, h1, h2, h3, Guest.zero]
  · by_cases h1 : 0 ≤ slot
    · have h2 : ¬ slot < 4 := by omega
      have h3 : ¬ slot ≤ 3 := by omega
      simp (config := {contextual := true, maxSteps := 1000000}) (disch := first | exact dB | fail) [go_sem, envOf, wrap_i64, int_lt, -Int.not_le, -Int.not_lt, Bool.decide_and, Bool.decide_or, and_assoc, Bool.and_assoc, Bool.or_assoc, Prod.exists, Prod.forall, -List.map_set, set_put, h1, h2, h3, Guest.zero]
    · simp (config := {contextual := true, maxSteps := 1000000}) (disch := first | exact dB | fail) [go_sem, envOf, wrap_i64, int_lt, -Int.not_le, -Int.not_lt, Bool.decide_and, Bool.decide_or, and_assoc, Bool.and_assoc, Bool.or_assoc, Prod.exists, Prod.forall, -List.map_set, set_put, h1, Guest.zero]
theorem iCfg_fn (σ : AHeap) (z j nw : Nat) (v : AV) (ws : List Int) (hz : σ.get z = some ⟨[.sl j 0 nw 1, v], true⟩) (hzn : z < σ.n) (hj : j < σ.n) (hw : σ.get j = some ⟨ws.map (.int .u64), true⟩) (hl : ws.length = nw) (hW : ∀ w ∈ ws, isW w) (hv : IsL v) : Fn Tryz.prog 104 [.ptr z 0] σ fun x τ => x = cV (check ws).1.slots (check ws).1.pages (check ws).1.lease ∧ τ = σ := by
  refine fn_pure ord0 mixed Tryz.func104 (by kernel_rfl) rfl (by kernel_rfl) (by rfl) ?_
  simp (config := {contextual := true, maxSteps := 1000000}) (disch := first | exact dB | fail) [go_sem, envOf, wrap_i64, int_lt, -Int.not_le, -Int.not_lt, Bool.decide_and, Bool.decide_or, and_assoc, Bool.and_assoc, Bool.or_assoc, Prod.exists, Prod.forall, -List.map_set, set_put, hz]
end AH
/- CONTRACTS OF THE LAWS: two worlds stand the same. -/
namespace AH
open Go Go.Proofs Ho
set_option maxRecDepth 20000
set_option maxHeartbeats 16000000
/-- A slice of guests, the first of its block. -/
def GV (σ : AHeap) (v : AV) (gs : List (Guest × AV × AV)) : Prop := (v = .nils ∧ gs = []) ∨ ∃ gb r, v = .sl gb 0 gs.length 26 ∧ gb < σ.n ∧ σ.get gb = some ⟨gCells gs ++ r, true⟩
theorem gCells_subR {gs : List (Guest × AV × AV)} {r : List AV} {i : Nat} {x : Guest × AV × AV} (h : gs[i]? = some x) : ((gCells gs ++ r).drop (i * 26)).take 26 = gV x.1 x.2.1 x.2.2 := by
  have hi : i < gs.length := by
    rcases Nat.lt_or_ge i gs.length with h' | h'
    · exact h'
    · rw [List.getElem?_eq_none h'] at h; cases h
  have hl := gCells_len gs
  rw [List.drop_append_of_le_length (by omega), List.take_append_of_le_length (by simp; omega)]
  exact gCells_sub h
theorem op_stood : Tryz.prog.stoodInHeld 42 = false := by kernel_rfl
theorem op_guard : Tryz.prog.eqGuardType Tryz.prog.depth 42 = false := by kernel_rfl
theorem op_same (a b c d : Int) : abin Tryz.prog .neq 42 (.agg [.int .i64 a, .int .i64 b, .int .i64 c, .int .i64 d]) (.agg [.int .i64 a, .int .i64 b, .int .i64 c, .int .i64 d]) = some (.bool false) := by
  simp [abin, aeqS, aeqList, aeq0, Tryz.underlying42, Tryz.underlying3, op_stood, op_guard]
theorem whSame_fn (σ : AHeap) (a1 a2 v1 v2 : AV) (ws : List Int) (g1 g2 : List (Guest × AV × AV)) (hw1 : LsV .u64 σ a1 ws) (hw2 : LsV .u64 σ a2 ws) (hl : (ws.length : Int) ≤ 1000000) (hv1 : GV σ v1 g1) (hv2 : GV σ v2 g2) (hm : g1.map (·.1) = g2.map (·.1)) (h7 : g1.length ≤ 7)
    (hL1 : ∀ x ∈ g1, LenIs x.2.1 x.1.snap.length ∧ LenIs x.2.2 x.1.plan.length) (hL2 : ∀ x ∈ g2, LenIs x.2.1 x.1.snap.length ∧ LenIs x.2.2 x.1.plan.length) :
    Fn Tryz.prog 38 [.agg [a1, v1], .agg [a2, v2]] σ fun x τ => x = .bool true ∧ (∀ y, y < σ.n → τ.get y = σ.get y) := by
  generalize hG : (fun (x : AV) (τ : AHeap) => x = AV.bool true ∧ (∀ y, y < σ.n → τ.get y = σ.get y)) = GG
  have fin : ∀ τ : AHeap, (∀ y, y < σ.n → τ.get y = σ.get y) → GG (.bool true) τ := fun τ h => by rw [← hG]; exact ⟨rfl, h⟩
  clear hG
  have i1 := hw1.isL
  have i2 := hw2.isL
  have i3 : IsL v1 := by rcases hv1 with ⟨rfl, _⟩ | ⟨gb, r, rfl, _⟩; exact isL_nils; exact isL_sl _ _ _ _
  have i4 : IsL v2 := by rcases hv2 with ⟨rfl, _⟩ | ⟨gb, r, rfl, _⟩; exact isL_nils; exact isL_sl _ _ _ _
  have hml : g1.length = g2.length := by simpa using congrArg List.length hm
  have le1 : LenIs v1 g1.length := by rcases hv1 with ⟨rfl, rfl⟩ | ⟨gb, r, rfl, _⟩; exact .inl ⟨rfl, rfl⟩; exact .inr ⟨_, _, _, rfl⟩
  have le2 : LenIs v2 g1.length := by rcases hv2 with ⟨rfl, rfl⟩ | ⟨gb, r, rfl, _⟩; exact .inl ⟨rfl, hml⟩; exact .inr ⟨_, _, _, by rw [hml]⟩
  refine fn_of ord38 mixed Tryz.func38 (by kernel_rfl) rfl (by kernel_rfl) ?_
  simp (config := {contextual := true, maxSteps := 1000000}) (disch := first | exact dB | fail) [go_sem, envOf, wrap_i64, int_lt, -Int.not_le, -Int.not_lt, Bool.decide_and, Bool.decide_or, and_assoc, Bool.and_assoc, Bool.or_assoc, Prod.exists, Prod.forall, -List.map_set, set_put, ord38]
  (repeat refine Alt.mk ?_)
  refine aloops_lt (fun R_ env τ => ∃ (u : Int), env 2 = .ptr σ.n 0 ∧ env 3 = .ptr (σ.n + 1) 0 ∧ env 5 = .int .i64 u ∧ (σ.push ⟨[a1, v1], true⟩).push ⟨[a2, v2], true⟩ = τ ∧ R_ ((ws.length - u).toNat) ∧ (0 ≤ u ∧ u ≤ ws.length)) (by rintro R_ env τ ⟨u, e2, e3, e5, h_, hR_, hp⟩; exact ⟨_, hR_, u, e2, e3, e5, h_, rfl, hp⟩) ⟨0, by first | rfl | simp [put_get, *], by first | rfl | simp [put_get, *], by first | rfl | simp [put_get, *], rfl, trivial, ?_⟩ ?_
  rotate_left
  rintro m_ env τ ⟨u, e2, e3, e5, rfl, rfl, hp⟩
  · by_cases hu : u < ws.length
    · simp (config := {contextual := true, maxSteps := 1000000}) (disch := first | exact dB | fail) [go_sem, envOf, wrap_i64, int_lt, -Int.not_le, -Int.not_lt, Bool.decide_and, Bool.decide_or, and_assoc, Bool.and_assoc, Bool.or_assoc, Prod.exists, Prod.forall, -List.map_set, set_put, ord38, e2, e3, e5, hu]
      (repeat refine Alt.mk ?_)
      exact ⟨by omega, by omega, by omega⟩
    · simp (config := {contextual := true, maxSteps := 1000000}) (disch := first | exact dB | fail) [go_sem, envOf, wrap_i64, int_lt, -Int.not_le, -Int.not_lt, Bool.decide_and, Bool.decide_or, and_assoc, Bool.and_assoc, Bool.or_assoc, Prod.exists, Prod.forall, -List.map_set, set_put, ord38, e2, e3, e5, hu]
      (repeat refine Alt.mk ?_)
      refine aloops_gen (fun τ => τ.get σ.n = some ⟨[a1, v1], true⟩ ∧ τ.get (σ.n + 1) = some ⟨[a2, v2], true⟩ ∧ (∀ y, y < σ.n → τ.get y = σ.get y) ∧ σ.n + 1 < τ.n) ?_ ?_
      · exact ⟨by (first | exact cGT | fail), by (first | exact cGT | fail), by first | exact cKP | fail, by simp only [push_n']; omega⟩
      intro τ0 ⟨t1, t2, t3, t4⟩
      clear hp e5 hu
      refine aloops_lt (fun R_ env τ => ∃ (u : Nat), env 2 = .ptr σ.n 0 ∧ env 3 = .ptr (σ.n + 1) 0 ∧ env 6 = .int .i64 u ∧ R_ (g1.length - u) ∧ (τ.get σ.n = some ⟨[a1, v1], true⟩) ∧ (τ.get (σ.n + 1) = some ⟨[a2, v2], true⟩) ∧ (∀ y, y < σ.n → τ.get y = σ.get y) ∧ (σ.n + 1 < τ.n) ∧ (u ≤ g1.length)) (by rintro R_ env τ ⟨u, e2, e3, e6, hR_, g0, g1', hk, hn, um⟩; exact ⟨_, hR_, u, e2, e3, e6, rfl, g0, g1', hk, hn, um⟩) ⟨0, by first | rfl | simp [put_get, *], by first | rfl | simp [put_get, *], by first | rfl | simp [put_get, *], trivial, ?_, ?_, ?_, ?_, ?_⟩ ?_
      rotate_left 5
      rintro m_ env τ ⟨u, e2, e3, e6, rfl, g0, g1', hk, hn, um⟩
      · by_cases hu : u < g1.length
        · have hu2 : ¬ g1.length ≤ u := by omega
          obtain ⟨⟨g, sv, pv⟩, hx⟩ : ∃ x, g1[u]? = some x := ⟨g1[u]'(by omega), by simp⟩
          obtain ⟨⟨g', sv', pv'⟩, hx'⟩ : ∃ x, g2[u]? = some x := ⟨g2[u]'(by omega), by simp⟩
          have hgg : g' = g := by
            have e1 : (g1.map (·.1))[u]? = some g := by simp [hx]
            rw [hm] at e1
            simpa [hx'] using e1
          subst hgg
          obtain ⟨l1, l2⟩ := hL1 _ (List.mem_of_getElem? hx)
          obtain ⟨l3, l4⟩ := hL2 _ (List.mem_of_getElem? hx')
          rcases hv1 with ⟨rfl, rfl⟩ | ⟨b1, r1, rfl, b2, b3⟩
          · simp at hu
          rcases hv2 with ⟨rfl, rfl⟩ | ⟨c1, r2, rfl, c2, c3⟩
          · have : g1.length = 0 := hml
            omega
          have hs1 := gCells_subR (r := r1) hx
          have hs2 := gCells_subR (r := r2) hx'
          have hl1 : u * 26 + 26 ≤ (gCells g1).length + r1.length := by rw [gCells_len]; omega
          have hl2 : u * 26 + 26 ≤ (gCells g2).length + r2.length := by rw [gCells_len]; omega
          have hb3 : τ.get b1 = _ := (hk _ b2).trans b3
          have hc3 : τ.get c1 = _ := (hk _ c2).trans c3
          have j1 := l1.isL
          have j2 := l2.isL
          have j3 := l3.isL
          have j4 := l4.isL
          have hum : u < g2.length := by omega
          rw [← hml] at *
          simp (config := {contextual := true, maxSteps := 1000000}) (disch := first | exact dB | fail) [go_sem, envOf, wrap_i64, int_lt, -Int.not_le, -Int.not_lt, Bool.decide_and, Bool.decide_or, and_assoc, Bool.and_assoc, Bool.or_assoc, Prod.exists, Prod.forall, -List.map_set, set_put, ord38, e2, e3, e6, g0, g1', hb3, hc3, hs1, hs2, hl1, hl2, hu, hu2, op_same]
          (repeat refine Alt.mk ?_)
          exact ⟨u + 1, by omega, by omega, hk, by omega, by omega⟩
        · have hu2 : g1.length ≤ u := by omega
          simp (config := {contextual := true, maxSteps := 1000000}) (disch := first | exact dB | fail) [go_sem, envOf, wrap_i64, int_lt, -Int.not_le, -Int.not_lt, Bool.decide_and, Bool.decide_or, and_assoc, Bool.and_assoc, Bool.or_assoc, Prod.exists, Prod.forall, -List.map_set, set_put, ord38, e2, e3, e6, g0, g1', hu, hu2]
          (repeat refine Alt.mk ?_)
          exact fin _ hk
      · exact t1
      · exact t2
      · exact t3
      · exact t4
      · omega
  · omega
end AH
/- THE LAW: a newcomer disturbs nobody. -/
namespace AH
open Go Go.Proofs Ho
set_option maxRecDepth 20000
set_option maxHeartbeats 16000000
theorem GV.frame {σ τ : AHeap} {v : AV} {gs : List (Guest × AV × AV)} (h : GV σ v gs) (hn : σ.n ≤ τ.n) (hf : ∀ y, y < σ.n → τ.get y = σ.get y) : GV τ v gs := by
  rcases h with ⟨rfl, rfl⟩ | ⟨gb, r, rfl, h1, h2⟩
  · exact .inl ⟨rfl, rfl⟩
  · exact .inr ⟨gb, r, rfl, by omega, (hf gb h1).trans h2⟩
theorem GB.len {τ : AHeap} {j gb : Nat} {v : AV} {gs : List (Guest × AV × AV)} (h : GB τ j v gb gs) : LenIs v gs.length := by
  cases h with
  | none => exact .inl ⟨rfl, rfl⟩
  | some h0 h1 h2 h3 h4 => exact .inr ⟨_, _, _, by rw [h0]⟩
theorem GB.gv {τ : AHeap} {j gb : Nat} {v : AV} {gs : List (Guest × AV × AV)} (h : GB τ j v gb gs) : GV τ v gs := by
  cases h with
  | none => exact .inl ⟨rfl, rfl⟩
  | some h0 h1 h2 h3 h4 => exact .inr ⟨gb, [], (by rw [h0]), h2, (by rw [List.append_nil]; exact h4)⟩
theorem WAt.lens {τ : AHeap} {lo : Nat} {B : Int} {j : Nat} {v : AV} {gb : Nat} {ws : List Int} {gs : List (Guest × AV × AV)} (h : WAt τ lo B j v gb ws gs) : ∀ x ∈ gs, LenIs x.2.1 x.1.snap.length ∧ LenIs x.2.2 x.1.plan.length := fun x hx => ⟨(h.G x hx).s.lenIs, (h.G x hx).p.lenIs⟩
theorem WBt.lens {τ : AHeap} {lo : Nat} {B : Int} {j : Nat} {v : AV} {gb : Nat} {ws : List Int} {gs : List (Guest × AV × AV)} (h : WBt τ lo B j v gb ws gs) : ∀ x ∈ gs, LenIs x.2.1 x.1.snap.length ∧ LenIs x.2.2 x.1.plan.length := fun x hx => ⟨(h.G x hx).s.lenIs, (h.G x hx).p.lenIs⟩
end AH
