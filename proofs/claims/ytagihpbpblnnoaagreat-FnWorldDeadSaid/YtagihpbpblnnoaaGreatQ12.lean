import Derived.Test.YtagihpbpblnnoaaGreatQ07
import Derived.Test.YtagihpbpblnnoaaGreatQ08
import Derived.Test.YtagihpbpblnnoaaGreatQ11
set_option linter.all false
namespace AH
open Go Go.Proofs Ho
set_option maxRecDepth 10000
abbrev cfgV (c : Cfg) : AV := .agg [.int .i64 c.slots, .int .i64 c.pages, .int .i64 c.lease]
theorem and_split (a b c : Prop) [Decidable a] [Decidable b] [Decidable c] : True := trivial
theorem platOk_fn (σ : AHeap) (s p l : Int) : Fn Tryz.prog 64 [.agg [.int .i64 s, .int .i64 p, .int .i64 l]] σ fun x τ => x = .bool (decide (Cfg.ok ⟨s, p, l⟩)) ∧ τ = σ := by
  refine fn_pure ord0 mixed Tryz.func64 (by kernel_rfl) rfl (by kernel_rfl) (by rfl) ?_
  by_cases h1 : 1 ≤ s <;> by_cases h2 : s ≤ 4 <;> by_cases h3 : 1 ≤ p <;> by_cases h4 : p ≤ 6 <;> simp [go_sem, envOf, h1, h2, h3, h4, Cfg.ok]
@[go_sem] theorem platOk_s (σ : AHeap) (s p l : Int) (kk_ : AV → AHeap → Prop) : @callP Tryz.prog (.fn 64 [] []) [.agg [.int .i64 s, .int .i64 p, .int .i64 l]] σ ⟨kk_⟩ = @Alt (kk_ (.bool (decide (Cfg.ok ⟨s, p, l⟩))) σ) ⟨@callP Tryz.prog (.fn 64 [] []) [.agg [.int .i64 s, .int .i64 p, .int .i64 l]] σ ⟨kk_⟩⟩ := callP_alt (platOk_fn σ s p l)
theorem regAt_fn (σ : AHeap) (s p l : Int) : Fn Tryz.prog 94 [.agg [.int .i64 s, .int .i64 p, .int .i64 l]] σ fun x τ => x = .int .i64 3 ∧ τ = σ := by
  refine fn_pure ord0 mixed Tryz.func94 (by kernel_rfl) rfl (by kernel_rfl) (by rfl) ?_
  simp (config := {contextual := true, maxSteps := 1000000}) (disch := first | exact dA | fail) [go_sem, envOf, wrap_i64, int_lt, -Int.not_le, -Int.not_lt, Bool.decide_and, Bool.decide_or, and_assoc, Bool.and_assoc, Bool.or_assoc, Prod.exists, Prod.forall]
@[go_sem] theorem regAt_s (σ : AHeap) (s p l : Int) (kk_ : AV → AHeap → Prop) : @callP Tryz.prog (.fn 94 [] []) [.agg [.int .i64 s, .int .i64 p, .int .i64 l]] σ ⟨kk_⟩ = @Alt (kk_ (.int .i64 3) σ) ⟨@callP Tryz.prog (.fn 94 [] []) [.agg [.int .i64 s, .int .i64 p, .int .i64 l]] σ ⟨kk_⟩⟩ := callP_alt (regAt_fn σ s p l)
theorem beatAt_fn (σ : AHeap) (s p l : Int) (hs : 0 ≤ s ∧ s ≤ 1000) : Fn Tryz.prog 96 [.agg [.int .i64 s, .int .i64 p, .int .i64 l]] σ fun x τ => x = .int .i64 (3 + s) ∧ τ = σ := by
  refine fn_pure ord96 mixed Tryz.func96 (by kernel_rfl) rfl (by kernel_rfl) (by rfl) ?_
  simp (disch := first | exact dA | fail) [go_sem, envOf, ord96, wrap_i64]
@[go_sem] theorem beatAt_s (σ : AHeap) (s p l : Int) (hs : 0 ≤ s ∧ s ≤ 1000) (kk_ : AV → AHeap → Prop) : @callP Tryz.prog (.fn 96 [] []) [.agg [.int .i64 s, .int .i64 p, .int .i64 l]] σ ⟨kk_⟩ = @Alt (kk_ (.int .i64 (3 + s)) σ) ⟨@callP Tryz.prog (.fn 96 [] []) [.agg [.int .i64 s, .int .i64 p, .int .i64 l]] σ ⟨kk_⟩⟩ := callP_alt (beatAt_fn σ s p l hs)
theorem headAt_fn (σ : AHeap) (s p l : Int) (hs : 0 ≤ s ∧ s ≤ 1000) : Fn Tryz.prog 237 [.agg [.int .i64 s, .int .i64 p, .int .i64 l]] σ fun x τ => x = .int .i64 (3 + 2 * s) ∧ τ = σ := by
  refine fn_pure ord237 mixed Tryz.func237 (by kernel_rfl) rfl (by kernel_rfl) (by rfl) ?_
  simp (disch := first | exact dA | fail) [go_sem, envOf, ord237, wrap_i64]
  exact Alt.mk (by omega)
@[go_sem] theorem headAt_s (σ : AHeap) (s p l : Int) (hs : 0 ≤ s ∧ s ≤ 1000) (kk_ : AV → AHeap → Prop) : @callP Tryz.prog (.fn 237 [] []) [.agg [.int .i64 s, .int .i64 p, .int .i64 l]] σ ⟨kk_⟩ = @Alt (kk_ (.int .i64 (3 + 2 * s)) σ) ⟨@callP Tryz.prog (.fn 237 [] []) [.agg [.int .i64 s, .int .i64 p, .int .i64 l]] σ ⟨kk_⟩⟩ := callP_alt (headAt_fn σ s p l hs)
theorem pageAt_fn (σ : AHeap) (s p l : Int) (hs : 0 ≤ s ∧ s ≤ 1000) : Fn Tryz.prog 229 [.agg [.int .i64 s, .int .i64 p, .int .i64 l]] σ fun x τ => x = .int .i64 (7 + 2 * s) ∧ τ = σ := by
  refine fn_pure ord0 mixed Tryz.func229 (by kernel_rfl) rfl (by kernel_rfl) (by rfl) ?_
  simp (disch := first | exact dA | fail) [go_sem, envOf, ord0, wrap_i64]
  exact Alt.mk (by omega)
@[go_sem] theorem pageAt_s (σ : AHeap) (s p l : Int) (hs : 0 ≤ s ∧ s ≤ 1000) (kk_ : AV → AHeap → Prop) : @callP Tryz.prog (.fn 229 [] []) [.agg [.int .i64 s, .int .i64 p, .int .i64 l]] σ ⟨kk_⟩ = @Alt (kk_ (.int .i64 (7 + 2 * s)) σ) ⟨@callP Tryz.prog (.fn 229 [] []) [.agg [.int .i64 s, .int .i64 p, .int .i64 l]] σ ⟨kk_⟩⟩ := callP_alt (pageAt_fn σ s p l hs)
theorem tagAt_fn (σ : AHeap) (s p l : Int) (hs : 0 ≤ s ∧ s ≤ 1000) (hp : 0 ≤ p ∧ p ≤ 1000) : Fn Tryz.prog 178 [.agg [.int .i64 s, .int .i64 p, .int .i64 l]] σ fun x τ => x = .int .i64 (7 + 2 * s + p) ∧ τ = σ := by
  refine fn_pure ord178 mixed Tryz.func178 (by kernel_rfl) rfl (by kernel_rfl) (by rfl) ?_
  simp (disch := first | exact dA | fail) [go_sem, envOf, ord178, wrap_i64]
@[go_sem] theorem tagAt_s (σ : AHeap) (s p l : Int) (hs : 0 ≤ s ∧ s ≤ 1000) (hp : 0 ≤ p ∧ p ≤ 1000) (kk_ : AV → AHeap → Prop) : @callP Tryz.prog (.fn 178 [] []) [.agg [.int .i64 s, .int .i64 p, .int .i64 l]] σ ⟨kk_⟩ = @Alt (kk_ (.int .i64 (7 + 2 * s + p)) σ) ⟨@callP Tryz.prog (.fn 178 [] []) [.agg [.int .i64 s, .int .i64 p, .int .i64 l]] σ ⟨kk_⟩⟩ := callP_alt (tagAt_fn σ s p l hs hp)
theorem linkAt_fn (σ : AHeap) (s p l : Int) (hs : 0 ≤ s ∧ s ≤ 1000) (hp : 0 ≤ p ∧ p ≤ 1000) : Fn Tryz.prog 127 [.agg [.int .i64 s, .int .i64 p, .int .i64 l]] σ fun x τ => x = .int .i64 (7 + 2 * s + 9 * p) ∧ τ = σ := by
  refine fn_pure ord127 mixed Tryz.func127 (by kernel_rfl) rfl (by kernel_rfl) (by rfl) ?_
  simp (disch := first | exact dA | fail) [go_sem, envOf, ord127, wrap_i64]
  exact Alt.mk (by omega)
@[go_sem] theorem linkAt_s (σ : AHeap) (s p l : Int) (hs : 0 ≤ s ∧ s ≤ 1000) (hp : 0 ≤ p ∧ p ≤ 1000) (kk_ : AV → AHeap → Prop) : @callP Tryz.prog (.fn 127 [] []) [.agg [.int .i64 s, .int .i64 p, .int .i64 l]] σ ⟨kk_⟩ = @Alt (kk_ (.int .i64 (7 + 2 * s + 9 * p)) σ) ⟨@callP Tryz.prog (.fn 127 [] []) [.agg [.int .i64 s, .int .i64 p, .int .i64 l]] σ ⟨kk_⟩⟩ := callP_alt (linkAt_fn σ s p l hs hp)
theorem deskAt_fn (σ : AHeap) (s p l : Int) (hs : 0 ≤ s ∧ s ≤ 1000) (hp : 0 ≤ p ∧ p ≤ 1000) : Fn Tryz.prog 65 [.agg [.int .i64 s, .int .i64 p, .int .i64 l]] σ fun x τ => x = .int .i64 (7 + 2 * s + 17 * p) ∧ τ = σ := by
  refine fn_pure ord65 mixed Tryz.func65 (by kernel_rfl) rfl (by kernel_rfl) (by rfl) ?_
  simp (disch := first | exact dA | fail) [go_sem, envOf, ord65, wrap_i64]
  exact Alt.mk (by omega)
@[go_sem] theorem deskAt_s (σ : AHeap) (s p l : Int) (hs : 0 ≤ s ∧ s ≤ 1000) (hp : 0 ≤ p ∧ p ≤ 1000) (kk_ : AV → AHeap → Prop) : @callP Tryz.prog (.fn 65 [] []) [.agg [.int .i64 s, .int .i64 p, .int .i64 l]] σ ⟨kk_⟩ = @Alt (kk_ (.int .i64 (7 + 2 * s + 17 * p)) σ) ⟨@callP Tryz.prog (.fn 65 [] []) [.agg [.int .i64 s, .int .i64 p, .int .i64 l]] σ ⟨kk_⟩⟩ := callP_alt (deskAt_fn σ s p l hs hp)
theorem size_fn (σ : AHeap) (s p l : Int) (hs : 0 ≤ s ∧ s ≤ 1000) (hp : 0 ≤ p ∧ p ≤ 1000) : Fn Tryz.prog 92 [.agg [.int .i64 s, .int .i64 p, .int .i64 l]] σ fun x τ => x = .int .i64 (7 + 23 * s + 17 * p) ∧ τ = σ := by
  refine fn_pure ord92 mixed Tryz.func92 (by kernel_rfl) rfl (by kernel_rfl) (by rfl) ?_
  simp (disch := first | exact dA | fail) [go_sem, envOf, ord92, wrap_i64]
  exact Alt.mk (by omega)
@[go_sem] theorem size_s (σ : AHeap) (s p l : Int) (hs : 0 ≤ s ∧ s ≤ 1000) (hp : 0 ≤ p ∧ p ≤ 1000) (kk_ : AV → AHeap → Prop) : @callP Tryz.prog (.fn 92 [] []) [.agg [.int .i64 s, .int .i64 p, .int .i64 l]] σ ⟨kk_⟩ = @Alt (kk_ (.int .i64 (7 + 23 * s + 17 * p)) σ) ⟨@callP Tryz.prog (.fn 92 [] []) [.agg [.int .i64 s, .int .i64 p, .int .i64 l]] σ ⟨kk_⟩⟩ := callP_alt (size_fn σ s p l hs hp)
theorem units_fn (σ : AHeap) (s p l : Int) (hp : 0 ≤ p ∧ p ≤ 1000) : Fn Tryz.prog 238 [.agg [.int .i64 s, .int .i64 p, .int .i64 l]] σ fun x τ => x = .int .i64 (8 * p) ∧ τ = σ := by
  refine fn_pure ord0 mixed Tryz.func238 (by kernel_rfl) rfl (by kernel_rfl) (by rfl) ?_
  simp (disch := first | exact dA | fail) [go_sem, envOf, wrap_i64]
theorem cIsSlot_fn (σ : AHeap) (s p l slot : Int) (hs : 0 ≤ s ∧ s ≤ 1000) : Fn Tryz.prog 117 [.agg [.int .i64 s, .int .i64 p, .int .i64 l], .int .i64 slot] σ fun x τ => x = .bool (decide (0 ≤ slot) && decide (slot ≤ s - 1)) ∧ τ = σ := by
  refine fn_pure ord0 mixed Tryz.func117 (by kernel_rfl) rfl (by kernel_rfl) (by rfl) ?_
  simp (disch := first | exact dA | fail) [go_sem, envOf, wrap_i64]
@[go_sem] theorem cIsSlot_s (σ : AHeap) (s p l slot : Int) (hs : 0 ≤ s ∧ s ≤ 1000) (kk_ : AV → AHeap → Prop) : @callP Tryz.prog (.fn 117 [] []) [.agg [.int .i64 s, .int .i64 p, .int .i64 l], .int .i64 slot] σ ⟨kk_⟩ = @Alt (kk_ (.bool (decide (0 ≤ slot) && decide (slot ≤ s - 1))) σ) ⟨@callP Tryz.prog (.fn 117 [] []) [.agg [.int .i64 s, .int .i64 p, .int .i64 l], .int .i64 slot] σ ⟨kk_⟩⟩ := callP_alt (cIsSlot_fn σ s p l slot hs)
@[go_sem] theorem cIsSlot_g (σ : AHeap) (b_ : Bool) (s p l slot : Int) (hs : b_ = true →  0 ≤ s ∧ s ≤ 1000) (kk_ : AV → AHeap → Prop) : @gC Tryz.prog b_ (.fn 117 [] []) [.agg [.int .i64 s, .int .i64 p, .int .i64 l], .int .i64 slot] σ ⟨kk_⟩ = @Alt (kk_ (gv b_ (.bool (decide (0 ≤ slot) && decide (slot ≤ s - 1)))) σ) ⟨@gC Tryz.prog b_ (.fn 117 [] []) [.agg [.int .i64 s, .int .i64 p, .int .i64 l], .int .i64 slot] σ ⟨kk_⟩⟩ := gC_alt b_ fun hb_ => cIsSlot_fn σ s p l slot (hs hb_)
theorem platDesk_fn (σ : AHeap) (s p l slot : Int) (hc : Cfg.ok ⟨s, p, l⟩) : Fn Tryz.prog 46 [.agg [.int .i64 s, .int .i64 p, .int .i64 l], .int .i64 slot] σ fun x τ => x = .int .i64 (if 0 ≤ slot ∧ slot < s then 7 + 2 * s + 17 * p + 21 * slot else 0) ∧ τ = σ := by
  refine fn_pure ord0 mixed Tryz.func46 (by kernel_rfl) rfl (by kernel_rfl) (by rfl) ?_
  have hc' := hc
  unfold Cfg.ok at hc'
  simp only at hc'
  by_cases h0 : 0 ≤ slot <;> by_cases h1 : slot ≤ s - 1 <;> simp (disch := first | exact dA | fail) [go_sem, envOf, wrap_i64, hc, h0, h1]
  · refine Alt.mk (Alt.mk (Alt.mk ?_))
    rw [if_pos (by omega)]; omega
  all_goals first | (exfalso; omega) | (intro h; omega) | exact Alt.mk (Alt.mk (fun _ => by omega)) | exact Alt.mk (by omega) | trace_state
theorem soloMost_fn (σ : AHeap) (s p l : Int) : Fn Tryz.prog 17 [.agg [.int .i64 s, .int .i64 p, .int .i64 l]] σ fun x τ => x = .int .i64 (if Cfg.ok ⟨s, p, l⟩ then 260 + (7 + 2 * s + 17 * p) else 0) ∧ τ = σ := by
  refine fn_pure ord0 mixed Tryz.func17 (by kernel_rfl) rfl (by kernel_rfl) (by rfl) ?_
  by_cases hc : Cfg.ok ⟨s, p, l⟩
  · have hc' := hc
    unfold Cfg.ok at hc'
    simp only at hc'
    simp (disch := first | exact dA | fail) [go_sem, envOf, wrap_i64, hc]
  · simp (disch := first | exact dA | fail) [go_sem, envOf, wrap_i64, hc]
theorem cfgOf_nil_fn (σ : AHeap)  : Fn Tryz.prog 91 [.nils] σ fun x τ => x = .tup [cfgV ⟨0, 0, 0⟩, .bool false] ∧ τ = σ := by
  refine fn_pure ord91 mixed Tryz.func91 (by kernel_rfl) rfl (by kernel_rfl) (by rfl) ?_
  simp (disch := first | exact dA | fail) [go_sem, envOf, wrap_i64, alen]
@[go_sem] theorem cfgOf_nil_s (σ : AHeap)  (kk_ : AV → AHeap → Prop) : @callP Tryz.prog (.fn 91 [] []) [.nils] σ ⟨kk_⟩ = @Alt (kk_ (.tup [cfgV ⟨0, 0, 0⟩, .bool false]) σ) ⟨@callP Tryz.prog (.fn 91 [] []) [.nils] σ ⟨kk_⟩⟩ := callP_alt (cfgOf_nil_fn σ )
theorem cfgOf_fn (σ : AHeap) (i k : Nat) (ws : List Int) (hv : LAt .u64 σ i k ws) (hw : ∀ w ∈ ws, isW w) : Fn Tryz.prog 91 [.sl i k ws.length 1] σ fun x τ => x = .tup [cfgV (cfgOf ws).1, .bool (cfgOf ws).2] ∧ τ = σ := by
  refine fn_pure ord91 mixed Tryz.func91 (by kernel_rfl) rfl (by kernel_rfl) (by rfl) ?_
  by_cases hws : ws = []
  · subst hws
    simp (disch := first | exact dA | fail) [go_sem, envOf, wrap_i64, alen, cfgOf]
  · have hl : 0 < ws.length := by cases ws <;> simp at hws ⊢
    have hl' : ((ws.length : Int) == 0) = false := by simpa using hws
    have h0 := fun τ (h : LAt .u64 τ i k ws) => LAt.load (P := Tryz.prog) (t := 43) (n := 1) h (by simp [go_sem]) 0 hl
    simp only [Nat.add_zero] at h0
    have hw0 := at_isW hw 0
    by_cases hm : cstamp (at_ ws 0) = 201115
    · have hc := cval_range (w := at_ ws 0)
      simp (disch := first | exact dA | fail) [go_sem, envOf, wrap_i64, alen, hws, hl, hl', h0, hm, ord91, Int.tdiv_eq_ediv_of_nonneg, Int.tmod_eq_emod_of_nonneg, cfgOf]
    · have hm' : (cstamp (at_ ws 0) != 201115) = true := by simp [hm]
      simp (disch := first | exact dA | fail) [go_sem, envOf, wrap_i64, alen, hws, hl, hl', h0, hm, hm', cfgOf]
@[go_sem] theorem cfgOf_s (σ : AHeap) (i k : Nat) (ws : List Int) (hv : LAt .u64 σ i k ws) (hw : ∀ w ∈ ws, isW w) (kk_ : AV → AHeap → Prop) : @callP Tryz.prog (.fn 91 [] []) [.sl i k ws.length 1] σ ⟨kk_⟩ = @Alt (kk_ (.tup [cfgV (cfgOf ws).1, .bool (cfgOf ws).2]) σ) ⟨@callP Tryz.prog (.fn 91 [] []) [.sl i k ws.length 1] σ ⟨kk_⟩⟩ := callP_alt (cfgOf_fn σ i k ws hv hw)
theorem cfgOf_ok {ws : List Int} (h : (cfgOf ws).2 = true) : (cfgOf ws).1.ok := by
  unfold cfgOf at h ⊢
  split at h
  · cases h
  · rw [if_neg (by assumption)]
    simpa using h
theorem platCheck_fn (σ : AHeap) (i k : Nat) (ws : List Int) (hv : LAt .u64 σ i k ws) (hw : ∀ w ∈ ws, isW w) : Fn Tryz.prog 29 [.sl i k ws.length 1] σ fun x τ => x = .tup [cfgV (platCheck ws).1, .bool (platCheck ws).2] ∧ τ = σ := by
  refine fn_pure ord0 mixed Tryz.func29 (by kernel_rfl) rfl (by kernel_rfl) (by rfl) ?_
  cases hc : (cfgOf ws).2 with
  | false => simp (disch := first | exact dA | fail) [go_sem, envOf, hc, platCheck]
  | true =>
    have hok := cfgOf_ok hc
    unfold Cfg.ok at hok
    by_cases hl : (ws.length : Int) = (cfgOf ws).1.size
    · have hs : (cfgOf ws).1.size = 7 + 23 * (cfgOf ws).1.slots + 17 * (cfgOf ws).1.pages := rfl
      simp (disch := first | exact dA | fail) [go_sem, envOf, hc, platCheck, alen, hl, hs]
    · have hl' := hl
      unfold Cfg.size at hl'
      have hl2 : ((ws.length : Int) != 7 + 23 * (cfgOf ws).1.slots + 17 * (cfgOf ws).1.pages) = true := by simpa using hl'
      simp (disch := first | exact dA | fail) [go_sem, envOf, hc, platCheck, alen, hl, hl2]
theorem platCheck_nil_fn (σ : AHeap)  : Fn Tryz.prog 29 [.nils] σ fun x τ => x = .tup [cfgV ⟨0, 0, 0⟩, .bool false] ∧ τ = σ := by
  refine fn_pure ord0 mixed Tryz.func29 (by kernel_rfl) rfl (by kernel_rfl) (by rfl) ?_
  simp (disch := first | exact dA | fail) [go_sem, envOf]
theorem platLoad_fn (σ : AHeap) (i k : Nat) (ws : List Int) (at' : Int) (hv : LAt .u64 σ i k ws) (hl : (ws.length : Int) < 1000000) : Fn Tryz.prog 255 [.sl i k ws.length 1, .int .i64 at'] σ fun x τ => x = .int .u64 (if 0 ≤ at' then at_ ws at' else 0) ∧ τ = σ := by
  refine fn_pure ord0 mixed Tryz.func255 (by kernel_rfl) rfl (by kernel_rfl) (by rfl) ?_
  by_cases h0 : 0 ≤ at'
  · by_cases h1 : at' < ws.length
    · have h5 := fun τ (h : LAt .u64 τ i k ws) => LAt.load (P := Tryz.prog) (t := 43) (n := 1) h (by simp [go_sem]) at'.toNat (by omega)
      have h3 : at' ≤ ws.length - 1 := by omega
      have h4 : ((at'.toNat : Nat) : Int) = at' := by omega
      rw [h4] at h5
      simp (disch := first | exact dA | fail) [go_sem, envOf, alen, wrap_i64, h0, h1, h3, h5]
    · have h3 : ¬ at' ≤ ws.length - 1 := by omega
      have h4 : at_ ws at' = 0 := by unfold at_; rw [List.getD_eq_getElem?_getD, List.getElem?_eq_none (by omega)]; rfl
      simp (disch := first | exact dA | fail) [go_sem, envOf, alen, wrap_i64, h0, h1, h3, h4]
  · simp (disch := first | exact dA | fail) [go_sem, envOf, alen, wrap_i64, h0]
theorem alive_fn (σ : AHeap) (beat epoch clock lease : Int) (hb : isW beat) (hc : 0 ≤ clock ∧ clock ≤ 4294967296) : Fn Tryz.prog 98 [.int .u64 beat, .int .i64 epoch, .int .i64 clock, .int .i64 lease] σ fun x τ => x = .bool (aliveB beat epoch clock lease) ∧ τ = σ := by
  refine fn_pure ord0 mixed Tryz.func98 (by kernel_rfl) rfl (by kernel_rfl) (by rfl) ?_
  have hv := cval_range (w := beat)
  by_cases h0 : epoch < cstamp beat <;> by_cases h1 : cstamp beat = epoch <;> simp (disch := first | exact dA | fail) [go_sem, envOf, wrap_i64, h0, h1, aliveB]
end AH
