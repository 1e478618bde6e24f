import Derived.Test.YtagihpbpblnnoaaGreatQ39
import Derived.Test.YtagihpbpblnnoaaGreatQ41
import Derived.Test.YtagihpbpblnnoaaGreatQ17
import Derived.Test.YtagihpbpblnnoaaGreatQ42
import Derived.Test.YtagihpbpblnnoaaGreatQ20
import Derived.Test.YtagihpbpblnnoaaGreatQ43
import Derived.Test.YtagihpbpblnnoaaGreatQ40
import Derived.Test.YtagihpbpblnnoaaGreatQ44
set_option linter.all false
namespace AH
open Go Go.Proofs Ho
set_option maxRecDepth 20000
set_option maxHeartbeats 16000000
/-- A run amid a step, with a list of its own. -/
structure RunM (σ τ : AHeap) (r j : Nat) (c : Cfg) (ws : List Int) (g : Guest) (m : Nat) (pv : AV) (ev : Int) : Prop where
  hg : τ.get r = some ⟨rG j ws.length c g (.sl m 0 g.snap.length 1) pv ev, true⟩
  hw : τ.get j = some ⟨ws.map (.int .u64), true⟩
  fr : ∀ y, y < σ.n → NE y r → NE y j → τ.get y = σ.get y
  n : σ.n ≤ τ.n
  m1 : σ.n ≤ m
  m2 : m < τ.n
  hm : τ.get m = some ⟨g.snap.map (.int .u64), true⟩
theorem RunM.done {σ τ : AHeap} {r j : Nat} {c : Cfg} {ws : List Int} {g : Guest} {m : Nat} {pv : AV} {ev : Int} (h : RunM σ τ r j c ws g m pv ev) {sv : AV} {l : List Int} : RunR σ τ r j c sv pv l g.plan ⟨ws, g, ev⟩ :=
  ⟨_, _, h.hg, h.hw, h.fr, h.n, .inr ⟨LsV.own h.m2 h.hm, .inl h.m1⟩, .inl ⟨rfl, rfl⟩⟩
theorem NV.low {n n' : Nat} {τ : AHeap} {v v' : AV} {l l' : List Int} (h : NV n' τ v v' l l') (hn : n ≤ n') : NV n τ v v' l l' := by
  rcases h with h | ⟨h1, h2⟩
  · exact .inl h
  · refine .inr ⟨h1, ?_⟩
    rcases h2 with h | h
    · exact .inl (by omega)
    · exact .inr h
theorem RunM.on {σ τ τ' : AHeap} {r j : Nat} {c : Cfg} {ws : List Int} {g : Guest} {m : Nat} {pv : AV} {ev : Int} (h : RunM σ τ r j c ws g m pv ev) (hr : r < σ.n) (hj : j < σ.n) {sv : AV} {l p : List Int} {o : SO} (h' : RunR τ τ' r j c (.sl m 0 g.snap.length 1) pv g.snap p o) : RunR σ τ' r j c sv pv l p o := by
  obtain ⟨sv', pv', a1, a2, a3, a4, a5, a6⟩ := h'
  have q1 := h.m1
  have q2 := h.m2
  have q3 := h.n
  have a7 := h.hm
  refine ⟨sv', pv', a1, a2, ?_, by omega, ?_, a6.low h.n⟩
  · intro y y1 y2 y3
    rw [a3 y (by omega) y2 y3, h.fr y y1 y2 y3]
  · rcases a5 with ⟨x1, x2⟩ | ⟨x1, x2⟩
    · have e : τ'.get m = some ⟨g.snap.map (.int .u64), true⟩ := by rw [a3 m q2 (by simp only [NE]; omega) (by simp only [NE]; omega)]; exact a7
      refine .inr ⟨?_, .inl ?_⟩
      · rw [x1, x2]; exact LsV.own (by omega) e
      · rw [x1]; exact q1
    · refine .inr ⟨x1, ?_⟩
      rcases x2 with x | x
      · exact .inl (by omega)
      · exact .inr x
theorem RunM.go {σ τ : AHeap} {r j : Nat} {c : Cfg} {ws : List Int} {g : Guest} {m : Nat} {pv : AV} {ev : Int} (h : RunM σ τ r j c ws g m pv ev) (hr : r < σ.n) (hj : j < σ.n) (ne : NE r j) (lp : IsL pv) (sW : ∀ w ∈ g.snap, isW w) (sl : (g.snap.length : Int) ≤ 1000000) : RunS τ r j c ws g (.sl m 0 g.snap.length 1) pv ev := by
  have q1 := h.m1
  have q2 := h.m2
  have q3 := h.n
  exact ⟨by omega, by omega, ne, h.hg, h.hw, LsV.own q2 h.hm, lp, .inl (by simp only [bOf]; omega), .inl (by simp only [bOf]; omega), sW, sl⟩
theorem xInside_fn (σ : AHeap) (r j : Nat) (c : Cfg) (ws : List Int) (g : Guest) (sv pv : AV) (h : Run σ r j c ws g sv pv) (hs : LsV .u64 σ sv g.snap) (sr : ApV sv r) (sj : ApV sv j) (hc : 0 ≤ c.slots ∧ c.slots ≤ 7)
    (sW : ∀ w ∈ g.snap, isW w) (sl : (g.snap.length : Int) ≤ 999999) (hpc : 11 ≤ g.pc ∧ g.pc ≤ 12) (h11 : g.pc = 11 → (g.snap.length : Int) = g.gk) (h12 : g.pc = 12 → 7 ≤ (g.snap.length : Int) ∧ 0 ≤ g.oa ∧ g.oa ≤ 7) :
    Fn Tryz.prog 153 [.ptr r 0] σ fun x τ => x = .tup [] ∧ RunR σ τ r j c sv pv g.snap g.plan (sInside c ws g) := by
  refine fn_of ord153 mixed Tryz.func153 (by kernel_rfl) rfl (by kernel_rfl) ?_
  have hrun := h
  obtain ⟨hr, hj, ne, hg, hw, hW, hl, gs, ⟨c1, c2, c3, c4, c5, c6⟩, ls, lp⟩ := h
  obtain ⟨g1, g2, g3, g4, g5, g6, g7, g8, g9, g10, g11, ⟨w1, w2, w3, w4, w5, w6⟩⟩ := gs
  by_cases e1 : g.pc = 11
  · have k1 := h11 e1
    have hm : sInside c ws g = ⟨ws, if g.gk + 1 = house c then ({ g with snap := g.snap ++ [pload ws g.gk], gk := g.gk + 1 } : Guest).decideG c else { g with snap := g.snap ++ [pload ws g.gk], gk := g.gk + 1 }, 0⟩ := by unfold sInside; rw [if_pos e1]
    rw [hm]
    have hp1 := pload_isW hW g.gk
    have hp2 : ∀ w ∈ g.snap ++ [pload ws g.gk], isW w := by
      intro w hw
      rcases List.mem_append.1 hw with h | h
      · exact sW w h
      · rw [List.mem_singleton.1 h]; exact hp1
    have hlen : (g.snap ++ [pload ws g.gk]).length = g.snap.length + 1 := by simp
    have hmap : (g.snap ++ [pload ws g.gk]).map (AV.int .u64) = g.snap.map (AV.int .u64) ++ [.int .u64 (pload ws g.gk)] := by simp
    obtain ⟨L, hL⟩ : ∃ L, g.snap ++ [pload ws g.gk] = L := ⟨_, rfl⟩
    rw [hL] at hp2 hlen hmap ⊢
    by_cases b1 : g.gk + 1 = house c
    · rw [if_pos b1]
      generalize hG : (⟨ws, ({ g with snap := L, gk := g.gk + 1 } : Guest).decideG c, 0⟩ : SO) = o
      simp (config := {contextual := true, maxSteps := 1000000}) (disch := first | exact dB | fail) [go_sem, envOf, wrap_i64, int_lt, -Int.not_le, -Int.not_lt, Bool.decide_and, Bool.decide_or, and_assoc, Bool.and_assoc, Bool.or_assoc, Prod.exists, Prod.forall, -List.map_set, set_put, ord153, hg, hw, e1, b1]
      (repeat refine Alt.mk ?_)
      refine callP_gen (fun τ => RunM σ τ r j c ws { g with snap := L, gk := g.gk + 1 } (σ.n + 1 + 1 + 1 + 1) pv 0) ?_ ?_
      · constructor
        · simp only [hlen, b1, e1]
          (first | exact cGT | fail)
        · (first | exact cGT | fail)
        · intro y y1 y2 y3
          (first | exact cGT | fail)
        · simp only [push_n', set_n', kill_n']; omega
        · omega
        · simp only [push_n', set_n', kill_n']; omega
        · simp only [hmap]; (first | exact cGT | fail)
      · intro τ hM
        refine callP_use (xDecide_fn τ r j c ws _ _ pv 0 (hM.go hr hj ne lp hp2 (by simp only; omega)) hc ⟨by omega, by omega⟩ ⟨by omega, by omega⟩ (by simp only; omega)) ?_
        rintro x τ' hn ⟨rfl, hR⟩
        simp (config := {contextual := true, maxSteps := 1000000}) (disch := first | exact dB | fail) [go_sem, envOf, wrap_i64, int_lt, -Int.not_le, -Int.not_lt, Bool.decide_and, Bool.decide_or, and_assoc, Bool.and_assoc, Bool.or_assoc, Prod.exists, Prod.forall, -List.map_set, set_put, ord153]
        (repeat refine Alt.mk ?_)
        exact hG ▸ hM.on hr hj hR
    · rw [if_neg b1]
      generalize hG : (⟨ws, { g with snap := L, gk := g.gk + 1 }, 0⟩ : SO) = o
      have hM : ∀ τ, RunM σ τ r j c ws { g with snap := L, gk := g.gk + 1 } (σ.n + 1 + 1 + 1 + 1) pv 0 → RunR σ τ r j c sv pv g.snap g.plan o := fun τ h => hG ▸ h.done
      clear hG
      simp (config := {contextual := true, maxSteps := 1000000}) (disch := first | exact dB | fail) [go_sem, envOf, wrap_i64, int_lt, -Int.not_le, -Int.not_lt, Bool.decide_and, Bool.decide_or, and_assoc, Bool.and_assoc, Bool.or_assoc, Prod.exists, Prod.forall, -List.map_set, set_put, ord153, hg, hw, e1, b1]
      (repeat refine Alt.mk ?_)
      refine hM _ ?_
      constructor
      · simp only [hlen, e1]
        (first | exact cGT | fail)
      · (first | exact cGT | fail)
      · intro y y1 y2 y3
        (first | exact cGT | fail)
      · simp only [push_n', set_n', kill_n']; omega
      · omega
      · simp only [push_n', set_n', kill_n']; omega
      · simp only [hmap]; (first | exact cGT | fail)
  have e2 : g.pc = 12 := by omega
  obtain ⟨k1, k2, k3⟩ := h12 e2
  have p1 := pReg_rng hc g.oa
  have w1 := at_isW sW (pReg c g.oa)
  have v1 := cval_range (w := at_ g.snap (pReg c g.oa))
  have q1 : pReg c g.oa < (g.snap.length : Int) := by omega
  by_cases b1 : swapB ws (pReg c g.oa) (at_ g.snap (pReg c g.oa))
  · obtain ⟨cut, hcut⟩ : ∃ cut, creg 2 (cval (at_ g.snap (pReg c g.oa)) / 4) (cstamp (at_ g.snap (pReg c g.oa))) = cut := ⟨_, rfl⟩
    have hm : sInside c ws g = ⟨put ws (pReg c g.oa) cut, ({ g with who := g.oa, snap := put g.snap (pReg c g.oa) cut } : Guest).planG, 2⟩ := by
      unfold sInside; rw [if_neg e1]; simp only; rw [if_pos b1, hcut]
    rw [hm]
    generalize hG : (⟨put ws (pReg c g.oa) cut, ({ g with who := g.oa, snap := put g.snap (pReg c g.oa) cut } : Guest).planG, 2⟩ : SO) = o
    have sr' : bOf sv ≠ r ∨ sv = .nils := sr
    have sj' : bOf sv ≠ j ∨ sv = .nils := sj
    simp (config := {contextual := true, maxSteps := 1000000}) (disch := first | exact dB | fail) [go_sem, envOf, wrap_i64, int_lt, -Int.not_le, -Int.not_lt, Bool.decide_and, Bool.decide_or, and_assoc, Bool.and_assoc, Bool.or_assoc, Prod.exists, Prod.forall, -List.map_set, set_put, ord153, hg, hw, e1, e2, b1, swapW, hcut]
    (repeat refine Alt.mk ?_)
    have hcW : isW cut := by rw [← hcut]; exact reg_isW _ _ _
    have hpl : (put g.snap (pReg c g.oa) cut).length = g.snap.length := put_len_ _ _ _
    have hpw : (put ws (pReg c g.oa) cut).length = ws.length := put_len_ _ _ _
    have hpW : ∀ w ∈ put g.snap (pReg c g.oa) cut, isW w := put_isW_ sW hcW
    refine callP_gen (fun τ => RunM σ τ r j c (put ws (pReg c g.oa) cut) { g with who := g.oa, snap := put g.snap (pReg c g.oa) cut } (σ.n + 1 + 1) pv 2) ?_ ?_
    · constructor
      · simp only [hpl, hpw, e2]
        (first | exact cGT | fail)
      · (first | exact cGT | fail)
      · intro y y1 y2 y3
        (first | exact cGT | fail)
      · simp only [push_n', set_n', kill_n']; omega
      · omega
      · simp only [push_n', set_n', kill_n']; omega
      · (first | exact cGT | fail)
    · intro τ hM
      refine callP_use (xPlan_fn τ r j c _ _ _ pv 2 (hM.go hr hj ne lp hpW (by simp only; omega))) ?_
      rintro x τ' hn ⟨rfl, hR⟩
      simp (config := {contextual := true, maxSteps := 1000000}) (disch := first | exact dB | fail) [go_sem, envOf, wrap_i64, int_lt, -Int.not_le, -Int.not_lt, Bool.decide_and, Bool.decide_or, and_assoc, Bool.and_assoc, Bool.or_assoc, Prod.exists, Prod.forall, -List.map_set, set_put, ord153]
      (repeat refine Alt.mk ?_)
      exact hG ▸ hM.on hr hj hR
  · have hm : sInside c ws g = ⟨ws, { g with gk := 0, snap := [], pc := 11 }, 0⟩ := by unfold sInside; rw [if_neg e1]; simp only; rw [if_neg b1]
    rw [hm]
    generalize hG : (⟨ws, { g with gk := 0, snap := [], pc := 11 }, 0⟩ : SO) = o
    have hself := set_self' hw
    have hM : ∀ τ, τ.get r = some ⟨rG j ws.length c { g with gk := 0, snap := [], pc := 11 } .nils pv 0, true⟩ → τ.get j = some ⟨ws.map (.int .u64), true⟩ → (∀ y, y < σ.n → NE y r → NE y j → τ.get y = σ.get y) → σ.n ≤ τ.n → RunR σ τ r j c sv pv g.snap g.plan o := by
      intro τ x1 x2 x3 x4
      rw [← hG]
      exact ⟨.nils, pv, x1, x2, x3, x4, .inr ⟨.nil, .inr rfl⟩, .inl ⟨rfl, rfl⟩⟩
    clear hG
    simp (config := {contextual := true, maxSteps := 1000000}) (disch := first | exact dB | fail) [go_sem, envOf, wrap_i64, int_lt, -Int.not_le, -Int.not_lt, Bool.decide_and, Bool.decide_or, and_assoc, Bool.and_assoc, Bool.or_assoc, Prod.exists, Prod.forall, -List.map_set, set_put, ord153, hg, hw, e1, e2, b1, swapW, hself]
    (repeat refine Alt.mk ?_)
    refine hM _ ?_ ?_ ?_ ?_
    · (first | exact cGT | fail)
    · (first | exact cGT | fail)
    · intro y y1 y2 y3
      (first | exact cGT | fail)
    · simp only [push_n', set_n', kill_n']; omega
end AH
/- CONTRACTS OF THE REFERENCE: a guest's step. Printed by wip/tools/gu4.py. -/
namespace AH
open Go Go.Proofs Ho
set_option maxRecDepth 20000
set_option maxHeartbeats 16000000
theorem LV.nv {n : Nat} {τ : AHeap} {v v' : AV} {l l' : List Int} (h : LV v v' l l') : NV n τ v v' l l' := by
  rcases h with h | ⟨rfl, rfl⟩
  · exact .inl h
  · exact .inr ⟨.nil, .inr rfl⟩
theorem NV.set {n : Nat} {τ : AHeap} {v v' : AV} {l l' : List Int} {y : Nat} {X : ABlk} (h : NV n τ v v' l l') (hy : y < n) : NV n (τ.set y X) v v' l l' := by
  rcases h with h | ⟨h, h2⟩
  · exact .inl h
  · refine .inr ⟨h.set ?_, h2⟩
    rcases h2 with h2 | h2
    · exact .inl (by omega)
    · exact .inr h2
theorem NV.isL {n : Nat} {τ : AHeap} {v v' : AV} {l l' : List Int} (h : NV n τ v v' l l') (hv : IsL v) : IsL v' := by
  rcases h with ⟨rfl, _⟩ | ⟨h, _⟩
  · exact hv
  · exact h.isL
theorem runR_of {σ : AHeap} {r j : Nat} {c : Cfg} {ws : List Int} {g : Guest} {sv pv sv' pv' : AV} {o : SO} (h : Run σ r j c ws g sv pv) (h1 : LV sv sv' g.snap o.g.snap) (h2 : LV pv pv' g.plan o.g.plan) :
    RunR σ (rOut σ r j c o sv' pv') r j c sv pv g.snap g.plan o :=
  ⟨sv', pv', by rw [rOut, get_set_same], by rw [rOut, set_get_ne (Ne.symm h.ne), get_set_same], fun y y1 y2 y3 => by rw [rOut, set_get_ne y2.ne, set_get_ne y3.ne], by simp only [set_n']; omega, h1.nv, h2.nv⟩
theorem Ho_GI_gs {B : Int} {g : Guest} (h : GI B g) (hB : B ≤ 900000) : GS g :=
  ⟨by have := h.slot; omega, by have := h.epoch; omega, h.pc, by have := h.gk; omega, h.gn, h.seq, h.who, h.whoE, h.time, by have := h.count; omega, by have := h.next; omega, ⟨h.was, h.door, h.beat, h.entry, h.snapW, h.planW⟩⟩
theorem xStep_fn (σ : AHeap) (j : Nat) (c : Cfg) (ws : List Int) (g : Guest) (sv pv : AV) (B : Int) (hB : B ≤ 900000) (hI : GI B g) (hj : j < σ.n) (hw : σ.get j = some ⟨ws.map (.int .u64), true⟩) (hW : ∀ w ∈ ws, isW w) (hl : (ws.length : Int) ≤ 1000000)
    (hs : LsV .u64 σ sv g.snap) (hp : LsV .u64 σ pv g.plan) (sj : ApV sv j) (pj : ApV pv j) (hc : 0 ≤ c.slots ∧ c.slots ≤ 7 ∧ 0 ≤ c.pages ∧ c.pages ≤ 10 ∧ 0 ≤ c.lease ∧ c.lease ≤ 1000000) (hpc : 1 ≤ g.pc) :
    Fn Tryz.prog 90 [.sl j 0 ws.length 1, .agg [.int .i64 c.slots, .int .i64 c.pages, .int .i64 c.lease], .agg (gV g sv pv)] σ fun x τ => ∃ sv' pv', x = .tup [.sl j 0 (sStep c ws g).ws.length 1, .agg (gV (sStep c ws g).g sv' pv'), .int .i64 (sStep c ws g).ev] ∧
      τ.get j = some ⟨(sStep c ws g).ws.map (.int .u64), true⟩ ∧ (∀ y, y < σ.n → NE y j → τ.get y = σ.get y) ∧ NV σ.n τ sv sv' g.snap (sStep c ws g).g.snap ∧ NV σ.n τ pv pv' g.plan (sStep c ws g).g.plan := by
  refine fn_of ord90 mixed Tryz.func90 (by kernel_rfl) rfl (by kernel_rfl) ?_
  have gs := Ho_GI_gs hI hB
  have i1 := hs.isL
  have i2 := hp.isL
  have hpc2 := hI.pc
  generalize hO : sStep c ws g = O
  have fin : ∀ (σ1 τ : AHeap) (r : Nat), σ.n ≤ r → σ.n ≤ σ1.n → (∀ y, y < σ.n → σ1.get y = σ.get y) → RunR σ1 τ r j c sv pv g.snap g.plan O → ∃ sv' pv', τ.get r = some ⟨rG j O.ws.length c O.g sv' pv' O.ev, true⟩ ∧ (∀ y, y < σ1.n → NE y r → NE y j → τ.get y = σ1.get y) ∧ σ1.n ≤ τ.n ∧ τ.get j = some ⟨O.ws.map (.int .u64), true⟩ ∧ (∀ y, y < σ.n → NE y j → τ.get y = σ.get y) ∧ NV σ1.n τ sv sv' g.snap O.g.snap ∧ NV σ1.n τ pv pv' g.plan O.g.plan := by
    rintro σ1 τ r hr hn hf ⟨sv', pv', a1, a2, a3, a4, a5, a6⟩
    exact ⟨sv', pv', a1, a3, a4, a2, fun y y1 y2 => by rw [a3 y (by omega) (by simp only [NE]; omega) y2, hf y y1], a5, a6⟩
  have run : ∀ (σ1 : AHeap) (r : Nat), σ.n ≤ r → r < σ1.n → (∀ y, y < σ.n → σ1.get y = σ.get y) → σ1.get r = some ⟨rG j ws.length c g sv pv 0, true⟩ → Run σ1 r j c ws g sv pv ∧ LsV .u64 σ1 sv g.snap ∧ LsV .u64 σ1 pv g.plan ∧ (bOf sv ≠ r ∨ sv = .nils) ∧ (bOf pv ≠ r ∨ pv = .nils) := by
    intro σ1 r hr hr' hf hg
    refine ⟨⟨hr', by omega, by omega, hg, (hf j hj).trans hw, hW, hl, gs, by omega, i1, i2⟩, hs.frame (by omega) hf, hp.frame (by omega) hf, ?_, ?_⟩
    · rcases hs.ex with ⟨rfl, _⟩ | ⟨i, k, rfl, h1, _⟩
      · exact .inr rfl
      · exact .inl (by simp only [bOf]; omega)
    · rcases hp.ex with ⟨rfl, _⟩ | ⟨i, k, rfl, h1, _⟩
      · exact .inr rfl
      · exact .inl (by simp only [bOf]; omega)
  by_cases b0 : g.pc ≤ 8
  · unfold sStep at hO;  rw [if_pos b0] at hO
    simp (config := {contextual := true, maxSteps := 1000000}) (disch := first | exact dB | fail) [go_sem, envOf, wrap_i64, int_lt, -Int.not_le, -Int.not_lt, Bool.decide_and, Bool.decide_or, and_assoc, Bool.and_assoc, Bool.or_assoc, Prod.exists, Prod.forall, -List.map_set, set_put, ord90, b0]
    (repeat refine Alt.mk ?_)
    refine callP_gen (fun σ1 => σ.n + 1 + 1 + 1 < σ1.n ∧ (∀ y, y < σ.n → σ1.get y = σ.get y) ∧ σ1.get (σ.n + 1 + 1 + 1) = some ⟨rG j ws.length c g sv pv 0, true⟩ ∧ σ1.get (σ.n + 1 + 1) = some ⟨gV Guest.zero .nils .nils, true⟩) ?_ ?_
    · refine ⟨by simp only [push_n', set_n', kill_n']; omega, ?_, ?_, ?_⟩
      · (intro j_ hj_; simp (disch := first | exact NE.ne (by assumption) | exact NE.sym (by assumption) | omega | (simp only [push_n', set_n', kill_n', res_n]; omega)) only [push_get_lt, set_get_ne, kill_get_ne, res_lt])
      · (first | exact cGT | fail)
      · simp only [Guest.zero]; (first | exact cGT | fail)
    rintro σ1 ⟨x1, x2, x3, x4⟩
    obtain ⟨hR, q1, q2, q3, q4⟩ := run σ1 (σ.n + 1 + 1 + 1) (by omega) x1 x2 x3
    refine callP_use (xFirst_fn σ1 (σ.n + 1 + 1 + 1) j c ws g sv pv hR ⟨hpc, b0⟩) ?_
    rintro x τ hn ⟨⟨s1, s2⟩, rfl, rfl, l1, l2⟩
    have hQ := runR_of hR l1 l2
    rw [hO] at hQ
    rw [hO] at hn ⊢
    generalize rOut σ1 (σ.n + 1 + 1 + 1) j c O s1 s2 = τ at hQ hn ⊢
    obtain ⟨sv', pv', y1, y2, y3, y4, y5, y6, y7⟩ := fin σ1 τ (σ.n + 1 + 1 + 1) (by omega) (by omega) x2 hQ
    have y8 := (y2 (σ.n + 1 + 1) (by omega) (by simp only [NE]; omega) (by simp only [NE]; omega)).trans x4
    have z1 := y6.isL i1
    have z2 := y7.isL i2
    simp (config := {contextual := true, maxSteps := 1000000}) (disch := first | exact dB | fail) [go_sem, envOf, wrap_i64, int_lt, -Int.not_le, -Int.not_lt, Bool.decide_and, Bool.decide_or, and_assoc, Bool.and_assoc, Bool.or_assoc, Prod.exists, Prod.forall, -List.map_set, set_put, ord90, y1, y8]
    (repeat refine Alt.mk ?_)
    exact ⟨y4, y5, (y6.set (by omega)).low (by omega), (y7.set (by omega)).low (by omega)⟩
  by_cases b1 : g.pc ≤ 10
  · unfold sStep at hO; rw [if_neg b0] at hO; rw [if_pos b1] at hO
    simp (config := {contextual := true, maxSteps := 1000000}) (disch := first | exact dB | fail) [go_sem, envOf, wrap_i64, int_lt, -Int.not_le, -Int.not_lt, Bool.decide_and, Bool.decide_or, and_assoc, Bool.and_assoc, Bool.or_assoc, Prod.exists, Prod.forall, -List.map_set, set_put, ord90, b0, b1]
    (repeat refine Alt.mk ?_)
    refine callP_gen (fun σ1 => σ.n + 1 + 1 + 1 < σ1.n ∧ (∀ y, y < σ.n → σ1.get y = σ.get y) ∧ σ1.get (σ.n + 1 + 1 + 1) = some ⟨rG j ws.length c g sv pv 0, true⟩ ∧ σ1.get (σ.n + 1 + 1) = some ⟨gV Guest.zero .nils .nils, true⟩) ?_ ?_
    · refine ⟨by simp only [push_n', set_n', kill_n']; omega, ?_, ?_, ?_⟩
      · (intro j_ hj_; simp (disch := first | exact NE.ne (by assumption) | exact NE.sym (by assumption) | omega | (simp only [push_n', set_n', kill_n', res_n]; omega)) only [push_get_lt, set_get_ne, kill_get_ne, res_lt])
      · (first | exact cGT | fail)
      · simp only [Guest.zero]; (first | exact cGT | fail)
    rintro σ1 ⟨x1, x2, x3, x4⟩
    obtain ⟨hR, q1, q2, q3, q4⟩ := run σ1 (σ.n + 1 + 1 + 1) (by omega) x1 x2 x3
    refine callP_use (xDoor_fn σ1 (σ.n + 1 + 1 + 1) j c ws g sv pv hR (by omega)) ?_
    rintro x τ hn ⟨⟨s1, s2⟩, rfl, rfl, l1, l2⟩
    have hQ := runR_of hR l1 l2
    rw [hO] at hQ
    rw [hO] at hn ⊢
    generalize rOut σ1 (σ.n + 1 + 1 + 1) j c O s1 s2 = τ at hQ hn ⊢
    obtain ⟨sv', pv', y1, y2, y3, y4, y5, y6, y7⟩ := fin σ1 τ (σ.n + 1 + 1 + 1) (by omega) (by omega) x2 hQ
    have y8 := (y2 (σ.n + 1 + 1) (by omega) (by simp only [NE]; omega) (by simp only [NE]; omega)).trans x4
    have z1 := y6.isL i1
    have z2 := y7.isL i2
    simp (config := {contextual := true, maxSteps := 1000000}) (disch := first | exact dB | fail) [go_sem, envOf, wrap_i64, int_lt, -Int.not_le, -Int.not_lt, Bool.decide_and, Bool.decide_or, and_assoc, Bool.and_assoc, Bool.or_assoc, Prod.exists, Prod.forall, -List.map_set, set_put, ord90, y1, y8]
    (repeat refine Alt.mk ?_)
    exact ⟨y4, y5, (y6.set (by omega)).low (by omega), (y7.set (by omega)).low (by omega)⟩
  by_cases b2 : g.pc ≤ 12
  · unfold sStep at hO; rw [if_neg b0] at hO; rw [if_neg b1] at hO; rw [if_pos b2] at hO
    simp (config := {contextual := true, maxSteps := 1000000}) (disch := first | exact dB | fail) [go_sem, envOf, wrap_i64, int_lt, -Int.not_le, -Int.not_lt, Bool.decide_and, Bool.decide_or, and_assoc, Bool.and_assoc, Bool.or_assoc, Prod.exists, Prod.forall, -List.map_set, set_put, ord90, b0, b1, b2]
    (repeat refine Alt.mk ?_)
    refine callP_gen (fun σ1 => σ.n + 1 + 1 + 1 < σ1.n ∧ (∀ y, y < σ.n → σ1.get y = σ.get y) ∧ σ1.get (σ.n + 1 + 1 + 1) = some ⟨rG j ws.length c g sv pv 0, true⟩ ∧ σ1.get (σ.n + 1 + 1) = some ⟨gV Guest.zero .nils .nils, true⟩) ?_ ?_
    · refine ⟨by simp only [push_n', set_n', kill_n']; omega, ?_, ?_, ?_⟩
      · (intro j_ hj_; simp (disch := first | exact NE.ne (by assumption) | exact NE.sym (by assumption) | omega | (simp only [push_n', set_n', kill_n', res_n]; omega)) only [push_get_lt, set_get_ne, kill_get_ne, res_lt])
      · (first | exact cGT | fail)
      · simp only [Guest.zero]; (first | exact cGT | fail)
    rintro σ1 ⟨x1, x2, x3, x4⟩
    obtain ⟨hR, q1, q2, q3, q4⟩ := run σ1 (σ.n + 1 + 1 + 1) (by omega) x1 x2 x3
    refine callP_use (xInside_fn σ1 (σ.n + 1 + 1 + 1) j c ws g sv pv hR q1 q3 sj ⟨hc.1, hc.2.1⟩ hI.snapW (by have := hI.snap; omega) (by omega) hI.p11 hI.p12) ?_
    rintro x τ hn ⟨rfl, hQ⟩
    rw [hO] at hQ
    obtain ⟨sv', pv', y1, y2, y3, y4, y5, y6, y7⟩ := fin σ1 τ (σ.n + 1 + 1 + 1) (by omega) (by omega) x2 hQ
    have y8 := (y2 (σ.n + 1 + 1) (by omega) (by simp only [NE]; omega) (by simp only [NE]; omega)).trans x4
    have z1 := y6.isL i1
    have z2 := y7.isL i2
    simp (config := {contextual := true, maxSteps := 1000000}) (disch := first | exact dB | fail) [go_sem, envOf, wrap_i64, int_lt, -Int.not_le, -Int.not_lt, Bool.decide_and, Bool.decide_or, and_assoc, Bool.and_assoc, Bool.or_assoc, Prod.exists, Prod.forall, -List.map_set, set_put, ord90, y1, y8]
    (repeat refine Alt.mk ?_)
    exact ⟨y4, y5, (y6.set (by omega)).low (by omega), (y7.set (by omega)).low (by omega)⟩
  by_cases b3 : g.pc ≤ 15
  · unfold sStep at hO; rw [if_neg b0] at hO; rw [if_neg b1] at hO; rw [if_neg b2] at hO; rw [if_pos b3] at hO
    simp (config := {contextual := true, maxSteps := 1000000}) (disch := first | exact dB | fail) [go_sem, envOf, wrap_i64, int_lt, -Int.not_le, -Int.not_lt, Bool.decide_and, Bool.decide_or, and_assoc, Bool.and_assoc, Bool.or_assoc, Prod.exists, Prod.forall, -List.map_set, set_put, ord90, b0, b1, b2, b3]
    (repeat refine Alt.mk ?_)
    refine callP_gen (fun σ1 => σ.n + 1 + 1 + 1 < σ1.n ∧ (∀ y, y < σ.n → σ1.get y = σ.get y) ∧ σ1.get (σ.n + 1 + 1 + 1) = some ⟨rG j ws.length c g sv pv 0, true⟩ ∧ σ1.get (σ.n + 1 + 1) = some ⟨gV Guest.zero .nils .nils, true⟩) ?_ ?_
    · refine ⟨by simp only [push_n', set_n', kill_n']; omega, ?_, ?_, ?_⟩
      · (intro j_ hj_; simp (disch := first | exact NE.ne (by assumption) | exact NE.sym (by assumption) | omega | (simp only [push_n', set_n', kill_n', res_n]; omega)) only [push_get_lt, set_get_ne, kill_get_ne, res_lt])
      · (first | exact cGT | fail)
      · simp only [Guest.zero]; (first | exact cGT | fail)
    rintro σ1 ⟨x1, x2, x3, x4⟩
    obtain ⟨hR, q1, q2, q3, q4⟩ := run σ1 (σ.n + 1 + 1 + 1) (by omega) x1 x2 x3
    refine callP_use (xDesk_fn σ1 (σ.n + 1 + 1 + 1) j c ws g sv pv hR q2 q4 pj (by have := hI.plan; omega) (fun h => ⟨hI.gk.1, hI.p13 (.inr h)⟩) (by omega)) ?_
    rintro x τ hn ⟨⟨s1, s2⟩, rfl, rfl, l1, l2⟩
    have hQ := runR_of hR l1 l2
    rw [hO] at hQ
    rw [hO] at hn ⊢
    generalize rOut σ1 (σ.n + 1 + 1 + 1) j c O s1 s2 = τ at hQ hn ⊢
    obtain ⟨sv', pv', y1, y2, y3, y4, y5, y6, y7⟩ := fin σ1 τ (σ.n + 1 + 1 + 1) (by omega) (by omega) x2 hQ
    have y8 := (y2 (σ.n + 1 + 1) (by omega) (by simp only [NE]; omega) (by simp only [NE]; omega)).trans x4
    have z1 := y6.isL i1
    have z2 := y7.isL i2
    simp (config := {contextual := true, maxSteps := 1000000}) (disch := first | exact dB | fail) [go_sem, envOf, wrap_i64, int_lt, -Int.not_le, -Int.not_lt, Bool.decide_and, Bool.decide_or, and_assoc, Bool.and_assoc, Bool.or_assoc, Prod.exists, Prod.forall, -List.map_set, set_put, ord90, y1, y8]
    (repeat refine Alt.mk ?_)
    exact ⟨y4, y5, (y6.set (by omega)).low (by omega), (y7.set (by omega)).low (by omega)⟩
  by_cases b4 : g.pc ≤ 20
  · unfold sStep at hO; rw [if_neg b0] at hO; rw [if_neg b1] at hO; rw [if_neg b2] at hO; rw [if_neg b3] at hO; rw [if_pos b4] at hO
    simp (config := {contextual := true, maxSteps := 1000000}) (disch := first | exact dB | fail) [go_sem, envOf, wrap_i64, int_lt, -Int.not_le, -Int.not_lt, Bool.decide_and, Bool.decide_or, and_assoc, Bool.and_assoc, Bool.or_assoc, Prod.exists, Prod.forall, -List.map_set, set_put, ord90, b0, b1, b2, b3, b4]
    (repeat refine Alt.mk ?_)
    refine callP_gen (fun σ1 => σ.n + 1 + 1 + 1 < σ1.n ∧ (∀ y, y < σ.n → σ1.get y = σ.get y) ∧ σ1.get (σ.n + 1 + 1 + 1) = some ⟨rG j ws.length c g sv pv 0, true⟩ ∧ σ1.get (σ.n + 1 + 1) = some ⟨gV Guest.zero .nils .nils, true⟩) ?_ ?_
    · refine ⟨by simp only [push_n', set_n', kill_n']; omega, ?_, ?_, ?_⟩
      · (intro j_ hj_; simp (disch := first | exact NE.ne (by assumption) | exact NE.sym (by assumption) | omega | (simp only [push_n', set_n', kill_n', res_n]; omega)) only [push_get_lt, set_get_ne, kill_get_ne, res_lt])
      · (first | exact cGT | fail)
      · simp only [Guest.zero]; (first | exact cGT | fail)
    rintro σ1 ⟨x1, x2, x3, x4⟩
    obtain ⟨hR, q1, q2, q3, q4⟩ := run σ1 (σ.n + 1 + 1 + 1) (by omega) x1 x2 x3
    refine callP_use (xWatch_fn σ1 (σ.n + 1 + 1 + 1) j c ws g sv pv hR (by omega)) ?_
    rintro x τ hn ⟨⟨s1, s2⟩, rfl, rfl, l1, l2⟩
    have hQ := runR_of hR l1 l2
    rw [hO] at hQ
    rw [hO] at hn ⊢
    generalize rOut σ1 (σ.n + 1 + 1 + 1) j c O s1 s2 = τ at hQ hn ⊢
    obtain ⟨sv', pv', y1, y2, y3, y4, y5, y6, y7⟩ := fin σ1 τ (σ.n + 1 + 1 + 1) (by omega) (by omega) x2 hQ
    have y8 := (y2 (σ.n + 1 + 1) (by omega) (by simp only [NE]; omega) (by simp only [NE]; omega)).trans x4
    have z1 := y6.isL i1
    have z2 := y7.isL i2
    simp (config := {contextual := true, maxSteps := 1000000}) (disch := first | exact dB | fail) [go_sem, envOf, wrap_i64, int_lt, -Int.not_le, -Int.not_lt, Bool.decide_and, Bool.decide_or, and_assoc, Bool.and_assoc, Bool.or_assoc, Prod.exists, Prod.forall, -List.map_set, set_put, ord90, y1, y8]
    (repeat refine Alt.mk ?_)
    exact ⟨y4, y5, (y6.set (by omega)).low (by omega), (y7.set (by omega)).low (by omega)⟩
  by_cases b5 : g.pc ≤ 24
  · unfold sStep at hO; rw [if_neg b0] at hO; rw [if_neg b1] at hO; rw [if_neg b2] at hO; rw [if_neg b3] at hO; rw [if_neg b4] at hO; rw [if_pos b5] at hO
    simp (config := {contextual := true, maxSteps := 1000000}) (disch := first | exact dB | fail) [go_sem, envOf, wrap_i64, int_lt, -Int.not_le, -Int.not_lt, Bool.decide_and, Bool.decide_or, and_assoc, Bool.and_assoc, Bool.or_assoc, Prod.exists, Prod.forall, -List.map_set, set_put, ord90, b0, b1, b2, b3, b4, b5]
    (repeat refine Alt.mk ?_)
    refine callP_gen (fun σ1 => σ.n + 1 + 1 + 1 < σ1.n ∧ (∀ y, y < σ.n → σ1.get y = σ.get y) ∧ σ1.get (σ.n + 1 + 1 + 1) = some ⟨rG j ws.length c g sv pv 0, true⟩ ∧ σ1.get (σ.n + 1 + 1) = some ⟨gV Guest.zero .nils .nils, true⟩) ?_ ?_
    · refine ⟨by simp only [push_n', set_n', kill_n']; omega, ?_, ?_, ?_⟩
      · (intro j_ hj_; simp (disch := first | exact NE.ne (by assumption) | exact NE.sym (by assumption) | omega | (simp only [push_n', set_n', kill_n', res_n]; omega)) only [push_get_lt, set_get_ne, kill_get_ne, res_lt])
      · (first | exact cGT | fail)
      · simp only [Guest.zero]; (first | exact cGT | fail)
    rintro σ1 ⟨x1, x2, x3, x4⟩
    obtain ⟨hR, q1, q2, q3, q4⟩ := run σ1 (σ.n + 1 + 1 + 1) (by omega) x1 x2 x3
    refine callP_use (xAid_fn σ1 (σ.n + 1 + 1 + 1) j c ws g sv pv hR q2 q4 pj (by have := hI.plan; omega) (fun h => (hI.own h).1) (fun _ h => ⟨hI.gk.1, by have := (hI.own h).2.2; omega⟩) (by omega)) ?_
    rintro x τ hn ⟨⟨s1, s2⟩, rfl, rfl, l1, l2⟩
    have hQ := runR_of hR l1 l2
    rw [hO] at hQ
    rw [hO] at hn ⊢
    generalize rOut σ1 (σ.n + 1 + 1 + 1) j c O s1 s2 = τ at hQ hn ⊢
    obtain ⟨sv', pv', y1, y2, y3, y4, y5, y6, y7⟩ := fin σ1 τ (σ.n + 1 + 1 + 1) (by omega) (by omega) x2 hQ
    have y8 := (y2 (σ.n + 1 + 1) (by omega) (by simp only [NE]; omega) (by simp only [NE]; omega)).trans x4
    have z1 := y6.isL i1
    have z2 := y7.isL i2
    simp (config := {contextual := true, maxSteps := 1000000}) (disch := first | exact dB | fail) [go_sem, envOf, wrap_i64, int_lt, -Int.not_le, -Int.not_lt, Bool.decide_and, Bool.decide_or, and_assoc, Bool.and_assoc, Bool.or_assoc, Prod.exists, Prod.forall, -List.map_set, set_put, ord90, y1, y8]
    (repeat refine Alt.mk ?_)
    exact ⟨y4, y5, (y6.set (by omega)).low (by omega), (y7.set (by omega)).low (by omega)⟩
  unfold sStep at hO; rw [if_neg b0] at hO; rw [if_neg b1] at hO; rw [if_neg b2] at hO; rw [if_neg b3] at hO; rw [if_neg b4] at hO; rw [if_neg b5] at hO
  simp (config := {contextual := true, maxSteps := 1000000}) (disch := first | exact dB | fail) [go_sem, envOf, wrap_i64, int_lt, -Int.not_le, -Int.not_lt, Bool.decide_and, Bool.decide_or, and_assoc, Bool.and_assoc, Bool.or_assoc, Prod.exists, Prod.forall, -List.map_set, set_put, ord90, b0, b1, b2, b3, b4, b5]
  (repeat refine Alt.mk ?_)
  refine callP_gen (fun σ1 => σ.n + 1 + 1 + 1 < σ1.n ∧ (∀ y, y < σ.n → σ1.get y = σ.get y) ∧ σ1.get (σ.n + 1 + 1 + 1) = some ⟨rG j ws.length c g sv pv 0, true⟩ ∧ σ1.get (σ.n + 1 + 1) = some ⟨gV Guest.zero .nils .nils, true⟩) ?_ ?_
  · refine ⟨by simp only [push_n', set_n', kill_n']; omega, ?_, ?_, ?_⟩
    · (intro j_ hj_; simp (disch := first | exact NE.ne (by assumption) | exact NE.sym (by assumption) | omega | (simp only [push_n', set_n', kill_n', res_n]; omega)) only [push_get_lt, set_get_ne, kill_get_ne, res_lt])
    · (first | exact cGT | fail)
    · simp only [Guest.zero]; (first | exact cGT | fail)
  rintro σ1 ⟨x1, x2, x3, x4⟩
  obtain ⟨hR, q1, q2, q3, q4⟩ := run σ1 (σ.n + 1 + 1 + 1) (by omega) x1 x2 x3
  refine callP_use (xLast_fn σ1 (σ.n + 1 + 1 + 1) j c ws g sv pv hR (by omega)) ?_
  rintro x τ hn ⟨⟨s1, s2⟩, rfl, rfl, l1, l2⟩
  have hQ := runR_of hR l1 l2
  rw [hO] at hQ
  rw [hO] at hn ⊢
  generalize rOut σ1 (σ.n + 1 + 1 + 1) j c O s1 s2 = τ at hQ hn ⊢
  obtain ⟨sv', pv', y1, y2, y3, y4, y5, y6, y7⟩ := fin σ1 τ (σ.n + 1 + 1 + 1) (by omega) (by omega) x2 hQ
  have y8 := (y2 (σ.n + 1 + 1) (by omega) (by simp only [NE]; omega) (by simp only [NE]; omega)).trans x4
  have z1 := y6.isL i1
  have z2 := y7.isL i2
  simp (config := {contextual := true, maxSteps := 1000000}) (disch := first | exact dB | fail) [go_sem, envOf, wrap_i64, int_lt, -Int.not_le, -Int.not_lt, Bool.decide_and, Bool.decide_or, and_assoc, Bool.and_assoc, Bool.or_assoc, Prod.exists, Prod.forall, -List.map_set, set_put, ord90, y1, y8]
  (repeat refine Alt.mk ?_)
  exact ⟨y4, y5, (y6.set (by omega)).low (by omega), (y7.set (by omega)).low (by omega)⟩
end AH
