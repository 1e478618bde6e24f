import Derived.Test.YtagihpbpblnnoaaGreatQ23
import Derived.Test.YtagihpbpblnnoaaGreatQ19
import Derived.Test.YtagihpbpblnnoaaGreatQ32
import Derived.Test.YtagihpbpblnnoaaGreatQ31
set_option linter.all false
namespace AH
open Go Go.Proofs Ho
set_option maxRecDepth 20000
set_option maxHeartbeats 8000000
def appGR (s : Option (Nat × Nat × List AV)) (v : AV × AHeap) [a : Kt (Option (AV × AHeap))] : Option (AV × AHeap) :=
  match s with
  | some (26, 240, _) => some v
  | _ => a.val
theorem appGR_some (z : List AV) (v : AV × AHeap) (a : Option (AV × AHeap)) : @appGR (some (26, 240, z)) v ⟨a⟩ = some v := _root_.id rfl
theorem app_g {P : Program} {t : TypeId} {τ : AHeap} {q j n : Nat} {vs : List AV} {gs : List (Guest × AV × AV)} (hj : τ.get j = some ⟨vs, true⟩) (hq : τ.get q = some ⟨gCells gs, true⟩) (hv : vs.length = 26) (ho : vs.all AV.one = true) (hn : gs.length = n) (hb : n ≤ 1000) :
    aappend P t (.sl q 0 n 26) (.sl j 0 1 26) τ = @appGR (tySlice P t) (.sl τ.n 0 (n + 1) 26, (τ.kill q).push ⟨gCells gs ++ vs, true⟩) ⟨aappend P t (.sl q 0 n 26) (.sl j 0 1 26) τ⟩ := by
  unfold appGR
  split
  · rename_i h
    have e1 : aelems 26 (.sl j 0 1 26) τ = some vs := by
      have e2 : List.take 26 vs = vs := List.take_of_length_le (by omega)
      simp [aelems, hj, hv, e2, ho]
    simp only [aappend, h, e1, alen, hq]
    rw [if_pos ⟨trivial, trivial, by rw [gCells_len, hn]; omega, by omega, by omega⟩]
    simp
  · rfl
attribute [go_sem] app_g appGR_some
theorem yBorn_fn (σ : AHeap) (j nw gb m : Nat) (slot : Int) (ws : List Int) (gs : List (Guest × AV × AV)) (hw : σ.get j = some ⟨ws.map (.int .u64), true⟩) (hj : j < σ.n) (hn : ws.length = nw) (hW : ∀ w ∈ ws, isW w) (hl : nw ≤ 1000000) (hgb : gb < σ.n) (hg : σ.get gb = some ⟨gCells gs, true⟩) (hm : gs.length = m) (hm6 : m < 6) (hs : 0 ≤ slot ∧ slot < (check ws).1.slots) (hs4 : slot < 4) : Fn Tryz.prog 145 [.agg [.sl j 0 nw 1, .sl gb 0 m 26], .int .i64 slot] σ fun x τ => ∃ a_ : Nat, x = .agg [.sl j 0 nw 1, .sl a_ 0 (m + 1) 26] ∧ (τ.get a_ = some ⟨gCells (gs ++ [({ Guest.zero with up := true, slot := slot }, .nils, .nils)]), true⟩ ∧ σ.n ≤ a_ ∧ a_ < τ.n ∧ ∀ y, y < σ.n → y ≠ gb → τ.get y = σ.get y) := by
  refine fn_of ord145 mixed Tryz.func145 (by kernel_rfl) rfl (by kernel_rfl) ?_
  have hv := lsv_at hj hw hn
  have hm' : ((m : Nat) : Int) < 6 := by omega
  have h6 : ¬ 6 ≤ ((m : Nat) : Int) := by omega
  obtain ⟨s1, s2⟩ := hs
  have s3 : ¬ (check ws).1.slots ≤ slot := by omega
  have s4 : ¬ 4 ≤ slot := by omega
  have s5 : 0 ≤ slot ∧ slot < 4 := by omega
  simp (config := {contextual := true, maxSteps := 1000000}) (disch := first | exact dB | fail) [go_sem, envOf, wrap_i64, int_lt, -Int.not_le, -Int.not_lt, Bool.decide_and, Bool.decide_or, and_assoc, Bool.and_assoc, Bool.or_assoc, Prod.exists, Prod.forall, ord145, h6, s1, s3, s4, s5, Guest.zero]
  exact Alt.mk (Alt.mk ⟨gCells_snoc gs { Guest.zero with up := true, slot := slot } .nils .nils, by omega⟩)
theorem yBorn0_fn (σ : AHeap) (j nw : Nat) (slot : Int) (ws : List Int) (hw : σ.get j = some ⟨ws.map (.int .u64), true⟩) (hj : j < σ.n) (hn : ws.length = nw) (hW : ∀ w ∈ ws, isW w) (hl : nw ≤ 1000000) (hs : 0 ≤ slot ∧ slot < (check ws).1.slots) (hs4 : slot < 4) : Fn Tryz.prog 145 [.agg [.sl j 0 nw 1, .nils], .int .i64 slot] σ fun x τ => ∃ a_ : Nat, x = .agg [.sl j 0 nw 1, .sl a_ 0 1 26] ∧ (τ.get a_ = some ⟨gCells [({ Guest.zero with up := true, slot := slot }, .nils, .nils)], true⟩ ∧ σ.n ≤ a_ ∧ a_ < τ.n ∧ ∀ y, y < σ.n → τ.get y = σ.get y) := by
  refine fn_of ord145 mixed Tryz.func145 (by kernel_rfl) rfl (by kernel_rfl) ?_
  have hv := lsv_at hj hw hn
  obtain ⟨s1, s2⟩ := hs
  have s3 : ¬ (check ws).1.slots ≤ slot := by omega
  have s4 : ¬ 4 ≤ slot := by omega
  have s5 : 0 ≤ slot ∧ slot < 4 := by omega
  simp (config := {contextual := true, maxSteps := 1000000}) (disch := first | exact dB | fail) [go_sem, envOf, wrap_i64, int_lt, -Int.not_le, -Int.not_lt, Bool.decide_and, Bool.decide_or, and_assoc, Bool.and_assoc, Bool.or_assoc, Prod.exists, Prod.forall, ord145, s1, s3, s4, s5, Guest.zero, aappend, aelems, alen]
  exact Alt.mk (Alt.mk ⟨by simp [gCells], by omega⟩)
end AH
/- CONTRACTS OF THE REFERENCE: where a guest looks next; a fresh world. -/
namespace AH
open Go Go.Proofs Ho
set_option maxRecDepth 20000
set_option maxHeartbeats 8000000
/-- The cell a guest is about to touch. -/
def near (c : Cfg) (g : Guest) : Int :=
  if g.pc = 1 ∨ g.pc = 3 ∨ g.pc = 5 ∨ g.pc = 7 then pBeat c g.slot
  else if g.pc = 4 ∨ g.pc = 8 then pReg c g.slot
  else if g.pc = 13 ∨ g.pc = 14 then Go.IntKind.i64.wrap (pDesk c g.slot + g.gk)
  else if g.pc = 16 ∨ g.pc = 19 then pReg c g.who
  else if g.pc = 17 then pBeat c g.who
  else if g.pc = 21 ∨ g.pc = 22 then Go.IntKind.i64.wrap (pDesk c g.who + g.gk)
  else if g.pc = 23 ∨ g.pc = 24 then cval g.entry / 1048576
  else if g.pc = 10 ∨ g.pc = 15 ∨ g.pc = 20 ∨ g.pc = 25 ∨ g.pc = 26 then 2
  else 0
theorem yNear_fn (σ : AHeap) (s p l : Int) (g : Guest) (sv pv : AV) (hs : 0 ≤ s ∧ s ≤ 10) (hp : 0 ≤ p ∧ p ≤ 10) (he : isW g.entry) (hS : IsL sv) (hP : IsL pv) : Fn Tryz.prog 163 [cV s p l, .agg (gV g sv pv)] σ fun x τ => x = .int .i64 (near ⟨s, p, l⟩ g) ∧ τ = σ := by
  refine fn_pure ord163 mixed Tryz.func163 (by kernel_rfl) rfl (by kernel_rfl) (by rfl) ?_
  have hcv := cval_range (w := g.entry)
  simp (config := {contextual := true, maxSteps := 1000000}) (disch := first | exact dB | fail) [go_sem, envOf, wrap_i64, int_lt, -Int.not_le, -Int.not_lt, Bool.decide_and, Bool.decide_or, and_assoc, Bool.and_assoc, Bool.or_assoc, Prod.exists, Prod.forall, ord163, near]
end AH
/- CONTRACTS OF THE REFERENCE: a fresh world. -/
namespace AH
open Go Go.Proofs Ho
set_option maxRecDepth 20000
set_option maxHeartbeats 8000000
theorem zFormat (σ : AHeap) (s p l : Int) (h : Cfg.ok ⟨s, p, l⟩) (k : AV → AHeap → Prop) :
    @callP Tryz.prog (.fn 218 [] []) [cV s p l] σ ⟨k⟩ = @Alt (k (.sl σ.n 0 (format ⟨s, p, l⟩).length 1) (σ.push ⟨(format ⟨s, p, l⟩).map (.int .u64), true⟩)) ⟨@callP Tryz.prog (.fn 218 [] []) [cV s p l] σ ⟨k⟩⟩ := by
  refine propext ⟨fun hh => .inr hh, fun hh => ?_⟩
  rcases hh with hh | hh
  · refine callP_use (zFormat_fn σ s p l h) ?_
    rintro v σ' hn ⟨rfl, rfl⟩
    exact hh
  · exact hh
attribute [go_sem] zFormat
theorem zWOpenN_fn (σ : AHeap) (s p l : Int) (h : ¬ Cfg.ok ⟨s, p, l⟩) : Fn Tryz.prog 160 [cV s p l] σ fun x τ => x = .agg [.nils, .nils] ∧ τ = σ := by
  refine fn_pure ord0 mixed Tryz.func160 (by kernel_rfl) rfl (by kernel_rfl) (by rfl) ?_
  simp (config := {contextual := true, maxSteps := 1000000}) (disch := first | exact dB | fail) [go_sem, envOf, wrap_i64, int_lt, -Int.not_le, -Int.not_lt, Bool.decide_and, Bool.decide_or, and_assoc, Bool.and_assoc, Bool.or_assoc, Prod.exists, Prod.forall, h]
theorem zWOpen_fn (σ : AHeap) (s p l : Int) (h : Cfg.ok ⟨s, p, l⟩) : Fn Tryz.prog 160 [cV s p l] σ fun x τ => ∃ a_ : Nat, x = .agg [.sl a_ 0 (format ⟨s, p, l⟩).length 1, .nils] ∧ (τ.get a_ = some ⟨(format ⟨s, p, l⟩).map (.int .u64), true⟩ ∧ σ.n ≤ a_ ∧ a_ < τ.n ∧ ∀ y, y < σ.n → τ.get y = σ.get y) := by
  refine fn_of ord0 mixed Tryz.func160 (by kernel_rfl) rfl (by kernel_rfl) ?_
  simp (config := {contextual := true, maxSteps := 1000000}) (disch := first | exact dB | fail) [go_sem, envOf, wrap_i64, int_lt, -Int.not_le, -Int.not_lt, Bool.decide_and, Bool.decide_or, and_assoc, Bool.and_assoc, Bool.or_assoc, Prod.exists, Prod.forall, h]
  exact Alt.mk (by omega)
@[go_sem] theorem zWOpen_s (σ : AHeap) (s p l : Int) (h : Cfg.ok ⟨s, p, l⟩) (kk_ : AV → AHeap → Prop) : @callP Tryz.prog (.fn 160 [] []) [cV s p l] σ ⟨kk_⟩ = @Alt (∀ (τ : AHeap) (a_ : Nat), (σ.n ≤ τ.n ∧ (τ.get a_ = some ⟨(format ⟨s, p, l⟩).map (.int .u64), true⟩ ∧ σ.n ≤ a_ ∧ a_ < τ.n ∧ ∀ y, y < σ.n → τ.get y = σ.get y)) → kk_ (.agg [.sl a_ 0 (format ⟨s, p, l⟩).length 1, .nils]) τ) ⟨@callP Tryz.prog (.fn 160 [] []) [cV s p l] σ ⟨kk_⟩⟩ := callP_reh (α := Nat) (V := fun a_ => .agg [.sl a_ 0 (format ⟨s, p, l⟩).length 1, .nils]) (F := fun a_ τ => τ.get a_ = some ⟨(format ⟨s, p, l⟩).map (.int .u64), true⟩ ∧ σ.n ≤ a_ ∧ a_ < τ.n ∧ ∀ y, y < σ.n → τ.get y = σ.get y) kk_ (zWOpen_fn σ s p l h)
end AH
/- CONTRACTS OF THE REFERENCE: a world, copied. -/
namespace AH
open Go Go.Proofs Ho
set_option maxRecDepth 20000
set_option maxHeartbeats 8000000
/-- The first guest of an empty list. -/
theorem app_g0 {P : Program} {t : TypeId} {τ : AHeap} {j : Nat} {vs : List AV} (hj : τ.get j = some ⟨vs, true⟩) (hv : vs.length = 26) (ho : vs.all AV.one = true) :
    aappend P t .nils (.sl j 0 1 26) τ = @appGR (tySlice P t) (.sl τ.n 0 1 26, τ.push ⟨vs, true⟩) ⟨aappend P t .nils (.sl j 0 1 26) τ⟩ := by
  unfold appGR
  split
  · rename_i h
    have e2 : List.take 26 vs = vs := List.take_of_length_le (by omega)
    have e1 : aelems 26 (.sl j 0 1 26) τ = some vs := by simp [aelems, hj, hv, e2, ho]
    simp only [aappend, h, e1, alen]
    simp [hv]
  · rfl
attribute [go_sem] app_g0
/-- Each guest's lists, as they lie from block lo on. -/
def GLs (τ : AHeap) (lo : Nat) (gs : List (Guest × AV × AV)) : Prop :=
  ∀ x ∈ gs, LsV .u64 τ x.2.1 x.1.snap ∧ LsV .u64 τ x.2.2 x.1.plan ∧ (x.1.snap.length : Int) ≤ 1000000 ∧ (x.1.plan.length : Int) ≤ 1000000 ∧ (lo ≤ bOf x.2.1 ∨ x.2.1 = .nils) ∧ (lo ≤ bOf x.2.2 ∨ x.2.2 = .nils)
theorem GLs.frame {σ τ : AHeap} {lo : Nat} {gs : List (Guest × AV × AV)} (h : GLs σ lo gs) (hn : σ.n ≤ τ.n) (hf : ∀ j, j < σ.n → τ.get j = σ.get j) : GLs τ lo gs :=
  fun x hx => ⟨(h x hx).1.frame hn hf, (h x hx).2.1.frame hn hf, (h x hx).2.2⟩
theorem GLs.kill {σ : AHeap} {lo j : Nat} {gs : List (Guest × AV × AV)} (h : GLs σ lo gs) (hj : ∀ x ∈ gs, (bOf x.2.1 ≠ j ∨ x.2.1 = .nils) ∧ (bOf x.2.2 ≠ j ∨ x.2.2 = .nils)) : GLs (σ.kill j) lo gs :=
  fun x hx => ⟨(h x hx).1.kill (hj x hx).1, (h x hx).2.1.kill (hj x hx).2, (h x hx).2.2⟩
theorem GLs.snoc {σ : AHeap} {lo : Nat} {gs : List (Guest × AV × AV)} (h : GLs σ lo gs) {y : Guest × AV × AV} (hy : GLs σ lo [y]) : GLs σ lo (gs ++ [y]) := by
  intro x hx
  rcases List.mem_append.1 hx with hx | hx
  · exact h x hx
  · exact hy x hx
theorem GLs.isL {σ : AHeap} {lo : Nat} {gs : List (Guest × AV × AV)} (h : GLs σ lo gs) : ∀ x ∈ gs, IsL x.2.1 ∧ IsL x.2.2 :=
  fun x hx => ⟨(h x hx).1.isL, (h x hx).2.1.isL⟩
end AH
