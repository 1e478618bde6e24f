import Derived.Test.YtagihpbpblnnoaaGreatQ18
import Derived.Test.YtagihpbpblnnoaaGreatQ19
set_option linter.all false
namespace AH
open Go Go.Proofs Ho
set_option maxRecDepth 20000
set_option maxHeartbeats 8000000
theorem cfg_eta (c : Cfg) : Cfg.mk c.slots c.pages c.lease = c := _root_.id rfl
attribute [go_sem] cfg_eta
theorem put_len (ws : List Int) (a x : Int) : (put ws a x).length = ws.length := by simp [put]
/-- The cells of a run. -/
abbrev rG (j nw : Nat) (c : Cfg) (g : Guest) (sv pv : AV) (ev : Int) : List AV :=
  [.sl j 0 nw 1, .int .i64 c.slots, .int .i64 c.pages, .int .i64 c.lease, .bool g.up, .int .i64 g.slot, .int .i64 g.epoch, .bool g.busy, .int .i64 g.okind, .int .i64 g.oslot, .int .i64 g.oa, .int .i64 g.ob, .int .i64 g.pc, .int .i64 g.gk, .int .i64 g.gn, .int .i64 g.seq, .int .i64 g.next, .int .i64 g.who, .int .i64 g.whoE, .bool g.own, .int .i64 g.time, .int .u64 g.was, .int .u64 g.door, .int .u64 g.beat, .int .u64 g.entry, sv, pv, .int .i64 g.code, .int .i64 g.val, .int .i64 g.count, .int .i64 ev]
/-- Numbers of a guest of which no sum wraps. -/
structure GS (g : Guest) : Prop where
  slot : -1000000 ≤ g.slot ∧ g.slot ≤ 1000000
  epoch : -1000000 ≤ g.epoch ∧ g.epoch ≤ 1000000
  pc : 0 ≤ g.pc ∧ g.pc ≤ 26
  gk : 0 ≤ g.gk ∧ g.gk ≤ 100000000
  gn : 0 ≤ g.gn ∧ g.gn ≤ 20
  seq : 0 ≤ g.seq ∧ g.seq ≤ 4294967295
  who : 0 ≤ g.who ∧ g.who ≤ 7
  whoE : 0 ≤ g.whoE ∧ g.whoE ≤ 4095
  time : 0 ≤ g.time ∧ g.time ≤ 1048575
  count : 0 ≤ g.count ∧ g.count ≤ 10000000
  next : 0 ≤ g.next ∧ g.next ≤ 4096
  words : g.words
structure Run (σ : AHeap) (r j : Nat) (c : Cfg) (ws : List Int) (g : Guest) (sv pv : AV) : Prop where
  hr : r < σ.n
  hj : j < σ.n
  ne : r ≠ j
  hg : σ.get r = some ⟨rG j ws.length c g sv pv 0, true⟩
  hw : σ.get j = some ⟨ws.map (.int .u64), true⟩
  W : ∀ w ∈ ws, isW w
  len : (ws.length : Int) ≤ 1000000
  gs : GS g
  cs : 0 ≤ c.slots ∧ c.slots ≤ 10 ∧ 0 ≤ c.pages ∧ c.pages ≤ 10 ∧ 0 ≤ c.lease ∧ c.lease ≤ 1000000
  ls : IsL sv
  lp : IsL pv
/-- What becomes of a list's value. -/
def LV (v v' : AV) (l l' : List Int) : Prop := (v' = v ∧ l' = l) ∨ (v' = .nils ∧ l' = [])
abbrev rOut (σ : AHeap) (r j : Nat) (c : Cfg) (o : SO) (sv pv : AV) : AHeap := (σ.set j ⟨o.ws.map (.int .u64), true⟩).set r ⟨rG j o.ws.length c o.g sv pv o.ev, true⟩
theorem mutR {σ : AHeap} {r j : Nat} {c : Cfg} {ws : List Int} {g : Guest} {sv pv sv' pv' : AV} {o : SO} (h : Run σ r j c ws g sv pv) (h1 : LV sv sv' g.snap o.g.snap) (h2 : LV pv pv' g.plan o.g.plan) :
    ∀ y, y < σ.n → (rOut σ r j c o sv' pv').get y = σ.get y ∨ ∀ B, (rOut σ r j c o sv' pv').get y = some B → ∃ C, σ.get y = some C ∧ ∀ a ∈ B.cells, a.lt σ.n = true ∨ a ∈ C.cells := by
  intro y _
  by_cases e : y = r
  · right
    intro B hB
    rw [AHeap.set_get, if_pos e] at hB
    cases hB
    subst e
    refine ⟨_, h.hg, ?_⟩
    have hjl := h.hj
    intro a ha
    have ks : sv'.lt σ.n = true ∨ sv' = sv := by rcases h1 with ⟨h, _⟩ | ⟨h, _⟩; exact .inr h; exact .inl (h ▸ rfl)
    have kp : pv'.lt σ.n = true ∨ pv' = pv := by rcases h2 with ⟨h, _⟩ | ⟨h, _⟩; exact .inr h; exact .inl (h ▸ rfl)
    simp only [rG, List.mem_cons, List.not_mem_nil, or_false] at ha
    rcases ha with ha | ha | ha | ha | ha | ha | ha | ha | ha | ha | ha | ha | ha | ha | ha | ha | ha | ha | ha | ha | ha | ha | ha | ha | ha | ha | ha | ha | ha | ha | ha
    all_goals first
      | exact .inl (ha ▸ rfl)
      | (rw [ha]; left; simp only [AV.lt]; exact decide_eq_true (by first | exact hjl | omega))
      | (rw [ha]; rcases ks with k | k; exact .inl k; exact .inr (by simp [k]))
      | (rw [ha]; rcases kp with k | k; exact .inl k; exact .inr (by simp [k]))
  · by_cases e' : y = j
    · right
      intro B hB
      rw [AHeap.set_get, if_neg e, AHeap.set_get, if_pos e'] at hB
      cases hB
      subst e'
      exact ⟨_, h.hw, fun a ha => .inl (lt_ints ha)⟩
    · left
      rw [AHeap.set_get, if_neg e, AHeap.set_get, if_neg e']
theorem xAns_fn (σ : AHeap) (r : Nat) (cd v : Int) (j nw : Nat) (cs cp cl : Int) (up : Bool) (slot : Int) (epoch : Int) (busy : Bool) (okind : Int) (oslot : Int) (oa : Int) (ob : Int) (pc : Int) (gk : Int) (gn : Int) (seq : Int) (next : Int) (who : Int) (whoE : Int) (own : Bool) (time : Int) (was : Int) (door : Int) (beat : Int) (entry : Int) (sv : AV) (pv : AV) (code : Int) (val : Int) (count : Int) (what : Int) (hg : σ.get r = some ⟨[.sl j 0 nw 1, .int .i64 cs, .int .i64 cp, .int .i64 cl, .bool up, .int .i64 slot, .int .i64 epoch, .bool busy, .int .i64 okind, .int .i64 oslot, .int .i64 oa, .int .i64 ob, .int .i64 pc, .int .i64 gk, .int .i64 gn, .int .i64 seq, .int .i64 next, .int .i64 who, .int .i64 whoE, .bool own, .int .i64 time, .int .u64 was, .int .u64 door, .int .u64 beat, .int .u64 entry, sv, pv, .int .i64 code, .int .i64 val, .int .i64 count, .int .i64 what], true⟩) (hc : 0 ≤ count ∧ count < 100000000) (hsv : IsL sv) (hpv : IsL pv) : Fn Tryz.prog 203 [.ptr r 0, .int .i64 cd, .int .i64 v] σ fun x τ => x = .tup [] ∧ τ = σ.set r ⟨[.sl j 0 nw 1, .int .i64 cs, .int .i64 cp, .int .i64 cl, .bool up, .int .i64 slot, .int .i64 (if okind = 5 ∧ cd = 0 then 0 else epoch), .bool false, .int .i64 okind, .int .i64 oslot, .int .i64 oa, .int .i64 ob, .int .i64 0, .int .i64 0, .int .i64 0, .int .i64 0, .int .i64 0, .int .i64 0, .int .i64 0, .bool false, .int .i64 0, .int .u64 0, .int .u64 0, .int .u64 0, .int .u64 0, .nils, .nils, .int .i64 cd, .int .i64 v, .int .i64 (count + 1), .int .i64 what], true⟩ := by
  refine fn_mut ord0 mixed Tryz.func203 (by kernel_rfl) rfl (by kernel_rfl) ?_ ?_ ?_ ?_
  · rfl
  · rfl
  · exact mut_set hg (by simp [AV.lt])
  simp (config := {contextual := true, maxSteps := 1000000}) (disch := first | exact dA | fail) [go_sem, envOf, wrap_i64, int_lt, -Int.not_le, -Int.not_lt, Bool.decide_and, Bool.decide_or, and_assoc, Bool.and_assoc, Bool.or_assoc, Prod.exists, Prod.forall, hg]
@[go_sem] theorem xAns_s (σ : AHeap) (r : Nat) (cd v : Int) (j nw : Nat) (cs cp cl : Int) (up : Bool) (slot : Int) (epoch : Int) (busy : Bool) (okind : Int) (oslot : Int) (oa : Int) (ob : Int) (pc : Int) (gk : Int) (gn : Int) (seq : Int) (next : Int) (who : Int) (whoE : Int) (own : Bool) (time : Int) (was : Int) (door : Int) (beat : Int) (entry : Int) (sv : AV) (pv : AV) (code : Int) (val : Int) (count : Int) (what : Int) (hg : σ.get r = some ⟨[.sl j 0 nw 1, .int .i64 cs, .int .i64 cp, .int .i64 cl, .bool up, .int .i64 slot, .int .i64 epoch, .bool busy, .int .i64 okind, .int .i64 oslot, .int .i64 oa, .int .i64 ob, .int .i64 pc, .int .i64 gk, .int .i64 gn, .int .i64 seq, .int .i64 next, .int .i64 who, .int .i64 whoE, .bool own, .int .i64 time, .int .u64 was, .int .u64 door, .int .u64 beat, .int .u64 entry, sv, pv, .int .i64 code, .int .i64 val, .int .i64 count, .int .i64 what], true⟩) (hc : 0 ≤ count ∧ count < 100000000) (hsv : IsL sv) (hpv : IsL pv) (kk_ : AV → AHeap → Prop) : @callP Tryz.prog (.fn 203 [] []) [.ptr r 0, .int .i64 cd, .int .i64 v] σ ⟨kk_⟩ = @Alt (kk_ (.tup []) (σ.set r ⟨[.sl j 0 nw 1, .int .i64 cs, .int .i64 cp, .int .i64 cl, .bool up, .int .i64 slot, .int .i64 (if okind = 5 ∧ cd = 0 then 0 else epoch), .bool false, .int .i64 okind, .int .i64 oslot, .int .i64 oa, .int .i64 ob, .int .i64 0, .int .i64 0, .int .i64 0, .int .i64 0, .int .i64 0, .int .i64 0, .int .i64 0, .bool false, .int .i64 0, .int .u64 0, .int .u64 0, .int .u64 0, .int .u64 0, .nils, .nils, .int .i64 cd, .int .i64 v, .int .i64 (count + 1), .int .i64 what], true⟩)) ⟨@callP Tryz.prog (.fn 203 [] []) [.ptr r 0, .int .i64 cd, .int .i64 v] σ ⟨kk_⟩⟩ := callP_alt (xAns_fn σ r cd v j nw cs cp cl up slot epoch busy okind oslot oa ob pc gk gn seq next who whoE own time was door beat entry sv pv code val count what hg hc hsv hpv)
theorem clamp_lo {n m : Int} (h : 0 ≤ n) : clamp n m = min n m ∨ m < 0 := by unfold clamp; omega
theorem xReg_fn (σ : AHeap) (r j : Nat) (c : Cfg) (ws : List Int) (g : Guest) (sv pv : AV) (h : Run σ r j c ws g sv pv) (hpc : g.pc = 4) : Fn Tryz.prog 257 [.ptr r 0] σ fun x τ => ∃ a_ : AV × AV, x = .tup [] ∧ τ = rOut σ r j c (sFirst c ws g) a_.1 a_.2 ∧ (LV sv a_.1 g.snap (sFirst c ws g).g.snap ∧ LV pv a_.2 g.plan (sFirst c ws g).g.plan) := by
  refine fn_rel (fun a_ : AV × AV => .tup []) (fun a_ : AV × AV => rOut σ r j c (sFirst c ws g) a_.1 a_.2) (fun a_ : AV × AV => LV sv a_.1 g.snap (sFirst c ws g).g.snap ∧ LV pv a_.2 g.plan (sFirst c ws g).g.plan) ord257 mixed Tryz.func257 (by kernel_rfl) rfl (by kernel_rfl) ?_ ?_ ?_ ?_
  · intros; rfl
  · intros; rfl
  · intro a ha; exact mutR h ha.1 ha.2
  obtain ⟨hr, hj, ne, hg, hw, hW, hl, gs, ⟨c1, c2, c3, c4, c5, c6⟩, ls, lp⟩ := h
  have hcm : ∀ X A B, (AHeap.set (AHeap.set X r A) j B) = (X.set j B).set r A := fun X A B => set_cm ne X A B
  have hpl := pload_isW hW (pReg c g.slot)
  have hcv := cval_range (w := pload ws (pReg c g.slot))
  have hself := set_self' hw
  have hcnt := gs.count
  have hslot := gs.slot
  unfold sFirst
  by_cases b1 : cval (pload ws (pReg c g.slot)) % 4 = 0
  · by_cases b2 : 4095 ≤ cval (pload ws (pReg c g.slot)) / 4
    · simp (config := {contextual := true, maxSteps := 1000000}) (disch := first | exact dA | fail) [go_sem, envOf, wrap_i64, int_lt, -Int.not_le, -Int.not_lt, Bool.decide_and, Bool.decide_or, and_assoc, Bool.and_assoc, Bool.or_assoc, Prod.exists, Prod.forall, ord257, hg, hw, hcm, hself, hpc, b1, b2, Guest.complete, Guest.zero]
      ((repeat refine Alt.mk ?_) <;> first | exact cVcl | skip)
    · simp (config := {contextual := true, maxSteps := 1000000}) (disch := first | exact dA | fail) [go_sem, envOf, wrap_i64, int_lt, -Int.not_le, -Int.not_lt, Bool.decide_and, Bool.decide_or, and_assoc, Bool.and_assoc, Bool.or_assoc, Prod.exists, Prod.forall, ord257, hg, hw, hcm, hself, hpc, b1, b2, Guest.complete, Guest.zero]
      ((repeat refine Alt.mk ?_) <;> first | exact cVcl | skip)
  · simp (config := {contextual := true, maxSteps := 1000000}) (disch := first | exact dA | fail) [go_sem, envOf, wrap_i64, int_lt, -Int.not_le, -Int.not_lt, Bool.decide_and, Bool.decide_or, and_assoc, Bool.and_assoc, Bool.or_assoc, Prod.exists, Prod.forall, ord257, hg, hw, hcm, hself, hpc, b1, Guest.complete, Guest.zero]
    ((repeat refine Alt.mk ?_) <;> first | exact cVcl | skip)
@[go_sem] theorem xReg_s (σ : AHeap) (r j : Nat) (c : Cfg) (ws : List Int) (g : Guest) (sv pv : AV) (h : Run σ r j c ws g sv pv) (hpc : g.pc = 4) (kk_ : AV → AHeap → Prop) : @callP Tryz.prog (.fn 257 [] []) [.ptr r 0] σ ⟨kk_⟩ = @Alt (∀ a_ : AV × AV, (LV sv a_.1 g.snap (sFirst c ws g).g.snap ∧ LV pv a_.2 g.plan (sFirst c ws g).g.plan) → kk_ (.tup []) (rOut σ r j c (sFirst c ws g) a_.1 a_.2)) ⟨@callP Tryz.prog (.fn 257 [] []) [.ptr r 0] σ ⟨kk_⟩⟩ := callP_rel kk_ (xReg_fn σ r j c ws g sv pv h hpc)
theorem xCome_fn (σ : AHeap) (r j : Nat) (c : Cfg) (ws : List Int) (g : Guest) (sv pv : AV) (h : Run σ r j c ws g sv pv) (hpc : 5 ≤ g.pc ∧ g.pc ≤ 8) : Fn Tryz.prog 206 [.ptr r 0] σ fun x τ => ∃ a_ : AV × AV, x = .tup [] ∧ τ = rOut σ r j c (sFirst c ws g) a_.1 a_.2 ∧ (LV sv a_.1 g.snap (sFirst c ws g).g.snap ∧ LV pv a_.2 g.plan (sFirst c ws g).g.plan) := by
  refine fn_rel (fun a_ : AV × AV => .tup []) (fun a_ : AV × AV => rOut σ r j c (sFirst c ws g) a_.1 a_.2) (fun a_ : AV × AV => LV sv a_.1 g.snap (sFirst c ws g).g.snap ∧ LV pv a_.2 g.plan (sFirst c ws g).g.plan) ord206 mixed Tryz.func206 (by kernel_rfl) rfl (by kernel_rfl) ?_ ?_ ?_ ?_
  · intros; rfl
  · intros; rfl
  · intro a ha; exact mutR h ha.1 ha.2
  obtain ⟨hr, hj, ne, hg, hw, hW, hl, gs, ⟨c1, c2, c3, c4, c5, c6⟩, ls, lp⟩ := h
  have hcm : ∀ X A B, (AHeap.set (AHeap.set X r A) j B) = (X.set j B).set r A := fun X A B => set_cm ne X A B
  have hself := set_self' hw
  obtain ⟨g1, g2, g3, g4, g5, g6, g7, g8, g9, g10, g11, ⟨w1, w2, w3, w4, w5, w6⟩⟩ := gs
  have hp1 := pload_isW hW (pBeat c g.slot)
  have hp2 := pload_isW hW 1
  have hcv := cval_range (w := pload ws 1)
  unfold sFirst
  by_cases e5 : g.pc = 5
  · simp (config := {contextual := true, maxSteps := 1000000}) (disch := first | exact dA | fail) [go_sem, envOf, wrap_i64, int_lt, -Int.not_le, -Int.not_lt, Bool.decide_and, Bool.decide_or, and_assoc, Bool.and_assoc, Bool.or_assoc, Prod.exists, Prod.forall, ord206, hg, hw, hcm, hself, e5, Guest.complete, Guest.zero]
    ((repeat refine Alt.mk ?_) <;> first | exact cVcl | skip)
  by_cases e6 : g.pc = 6
  · simp (config := {contextual := true, maxSteps := 1000000}) (disch := first | exact dA | fail) [go_sem, envOf, wrap_i64, int_lt, -Int.not_le, -Int.not_lt, Bool.decide_and, Bool.decide_or, and_assoc, Bool.and_assoc, Bool.or_assoc, Prod.exists, Prod.forall, ord206, hg, hw, hcm, hself, e5, e6, Guest.complete, Guest.zero]
    ((repeat refine Alt.mk ?_) <;> first | exact cVcl | skip)
  by_cases e7 : g.pc = 7
  · by_cases b1 : g.next ≤ cstamp g.was
    · simp (config := {contextual := true, maxSteps := 1000000}) (disch := first | exact dA | fail) [go_sem, envOf, wrap_i64, int_lt, -Int.not_le, -Int.not_lt, Bool.decide_and, Bool.decide_or, and_assoc, Bool.and_assoc, Bool.or_assoc, Prod.exists, Prod.forall, ord206, hg, hw, hcm, hself, e5, e6, e7, b1, Guest.complete, Guest.zero]
      ((repeat refine Alt.mk ?_) <;> first | exact cVcl | skip)
    · by_cases b2 : swapB ws (pBeat c g.slot) g.was
      · simp (config := {contextual := true, maxSteps := 1000000}) (disch := first | exact dA | fail) [go_sem, envOf, wrap_i64, int_lt, -Int.not_le, -Int.not_lt, Bool.decide_and, Bool.decide_or, and_assoc, Bool.and_assoc, Bool.or_assoc, Prod.exists, Prod.forall, ord206, hg, hw, hcm, hself, e5, e6, e7, b1, b2, Guest.complete, Guest.zero]
        ((repeat refine Alt.mk ?_) <;> first | exact cVcl | skip)
      · simp (config := {contextual := true, maxSteps := 1000000}) (disch := first | exact dA | fail) [go_sem, envOf, wrap_i64, int_lt, -Int.not_le, -Int.not_lt, Bool.decide_and, Bool.decide_or, and_assoc, Bool.and_assoc, Bool.or_assoc, Prod.exists, Prod.forall, ord206, hg, hw, hcm, hself, e5, e6, e7, b1, b2, Guest.complete, Guest.zero]
        ((repeat refine Alt.mk ?_) <;> first | exact cVcl | skip)
  have e8 : g.pc = 8 := by omega
  by_cases b2 : swapB ws (pReg c g.slot) g.entry
  · simp (config := {contextual := true, maxSteps := 1000000}) (disch := first | exact dA | fail) [go_sem, envOf, wrap_i64, int_lt, -Int.not_le, -Int.not_lt, Bool.decide_and, Bool.decide_or, and_assoc, Bool.and_assoc, Bool.or_assoc, Prod.exists, Prod.forall, ord206, hg, hw, hcm, hself, e5, e6, e7, e8, b2, swapW, Guest.complete, Guest.zero]
    ((repeat refine Alt.mk ?_) <;> first | exact cVcl | skip)
  · simp (config := {contextual := true, maxSteps := 1000000}) (disch := first | exact dA | fail) [go_sem, envOf, wrap_i64, int_lt, -Int.not_le, -Int.not_lt, Bool.decide_and, Bool.decide_or, and_assoc, Bool.and_assoc, Bool.or_assoc, Prod.exists, Prod.forall, ord206, hg, hw, hcm, hself, e5, e6, e7, e8, b2, swapW, Guest.complete, Guest.zero]
    ((repeat refine Alt.mk ?_) <;> first | exact cVcl | skip)
end AH
/- CONTRACTS OF THE REFERENCE: a guest's run, the last steps. -/
namespace AH
open Go Go.Proofs Ho
set_option maxRecDepth 20000
set_option maxHeartbeats 8000000
theorem xLast_fn (σ : AHeap) (r j : Nat) (c : Cfg) (ws : List Int) (g : Guest) (sv pv : AV) (h : Run σ r j c ws g sv pv) (hpc : 25 ≤ g.pc) : Fn Tryz.prog 157 [.ptr r 0] σ fun x τ => ∃ a_ : AV × AV, x = .tup [] ∧ τ = rOut σ r j c (sLast ws g) a_.1 a_.2 ∧ (LV sv a_.1 g.snap (sLast ws g).g.snap ∧ LV pv a_.2 g.plan (sLast ws g).g.plan) := by
  refine fn_rel (fun a_ : AV × AV => .tup []) (fun a_ : AV × AV => rOut σ r j c (sLast ws g) a_.1 a_.2) (fun a_ : AV × AV => LV sv a_.1 g.snap (sLast ws g).g.snap ∧ LV pv a_.2 g.plan (sLast ws g).g.plan) ord157 mixed Tryz.func157 (by kernel_rfl) rfl (by kernel_rfl) ?_ ?_ ?_ ?_
  · intros; rfl
  · intros; rfl
  · intro a ha; exact mutR h ha.1 ha.2
  obtain ⟨hr, hj, ne, hg, hw, hW, hl, gs, ⟨c1, c2, c3, c4, c5, c6⟩, ls, lp⟩ := h
  have hcm : ∀ X A B, (AHeap.set (AHeap.set X r A) j B) = (X.set j B).set r A := fun X A B => set_cm ne X A B
  have hself := set_self' hw
  obtain ⟨g1, g2, g3, g4, g5, g6, g7, g8, g9, g10, g11, ⟨w1, w2, w3, w4, w5, w6⟩⟩ := gs
  unfold sLast
  by_cases e1 : g.pc = 26
  · by_cases b1 : swapB ws 2 (cdoor 1 g.slot g.epoch g.seq)
    · simp (config := {contextual := true, maxSteps := 1000000}) (disch := first | exact dA | fail) [go_sem, envOf, wrap_i64, int_lt, -Int.not_le, -Int.not_lt, Bool.decide_and, Bool.decide_or, and_assoc, Bool.and_assoc, Bool.or_assoc, Prod.exists, Prod.forall, ord157, hg, hw, hcm, hself, e1, b1, Guest.complete, Guest.zero]
      ((repeat refine Alt.mk ?_) <;> first | exact cVcl | skip)
    · simp (config := {contextual := true, maxSteps := 1000000}) (disch := first | exact dA | fail) [go_sem, envOf, wrap_i64, int_lt, -Int.not_le, -Int.not_lt, Bool.decide_and, Bool.decide_or, and_assoc, Bool.and_assoc, Bool.or_assoc, Prod.exists, Prod.forall, ord157, hg, hw, hcm, hself, e1, b1, Guest.complete, Guest.zero]
      ((repeat refine Alt.mk ?_) <;> first | exact cVcl | skip)
  by_cases b1 : swapB ws 2 g.door
  · cases b2 : g.own
    · simp (config := {contextual := true, maxSteps := 1000000}) (disch := first | exact dA | fail) [go_sem, envOf, wrap_i64, int_lt, -Int.not_le, -Int.not_lt, Bool.decide_and, Bool.decide_or, and_assoc, Bool.and_assoc, Bool.or_assoc, Prod.exists, Prod.forall, ord157, hg, hw, hcm, hself, e1, b1, b2, Guest.complete, Guest.zero]
      ((repeat refine Alt.mk ?_) <;> first | exact cVcl | skip)
    · simp (config := {contextual := true, maxSteps := 1000000}) (disch := first | exact dA | fail) [go_sem, envOf, wrap_i64, int_lt, -Int.not_le, -Int.not_lt, Bool.decide_and, Bool.decide_or, and_assoc, Bool.and_assoc, Bool.or_assoc, Prod.exists, Prod.forall, ord157, hg, hw, hcm, hself, e1, b1, b2, Guest.complete, Guest.zero]
      ((repeat refine Alt.mk ?_) <;> first | exact cVcl | skip)
  · cases b2 : g.own
    · simp (config := {contextual := true, maxSteps := 1000000}) (disch := first | exact dA | fail) [go_sem, envOf, wrap_i64, int_lt, -Int.not_le, -Int.not_lt, Bool.decide_and, Bool.decide_or, and_assoc, Bool.and_assoc, Bool.or_assoc, Prod.exists, Prod.forall, ord157, hg, hw, hcm, hself, e1, b1, b2, Guest.complete, Guest.zero]
      ((repeat refine Alt.mk ?_) <;> first | exact cVcl | skip)
    · simp (config := {contextual := true, maxSteps := 1000000}) (disch := first | exact dA | fail) [go_sem, envOf, wrap_i64, int_lt, -Int.not_le, -Int.not_lt, Bool.decide_and, Bool.decide_or, and_assoc, Bool.and_assoc, Bool.or_assoc, Prod.exists, Prod.forall, ord157, hg, hw, hcm, hself, e1, b1, b2, Guest.complete, Guest.zero]
      ((repeat refine Alt.mk ?_) <;> first | exact cVcl | skip)
end AH
