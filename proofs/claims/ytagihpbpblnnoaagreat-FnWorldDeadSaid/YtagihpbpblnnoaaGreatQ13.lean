import Derived.Test.YtagihpbpblnnoaaGreatQ11
set_option linter.all false
namespace AH
open Go Go.Proofs Ho
set_option maxRecDepth 10000
theorem clamp_rng {n m : Int} (h : 0 ≤ m) : 0 ≤ clamp n m ∧ clamp n m ≤ m := by unfold clamp; omega
theorem zLow_fn (σ : AHeap) (n m : Int) (h : 0 ≤ m) : Fn Tryz.prog 148 [.int .i64 n, .int .i64 m] σ fun x τ => x = .int .i64 (clamp n m) ∧ τ = σ := by
  refine fn_pure ord0 mixed Tryz.func148 (by kernel_rfl) rfl (by kernel_rfl) (by rfl) ?_
  simp (config := {contextual := true, maxSteps := 1000000}) (disch := first | exact dA | fail) [go_sem, envOf, wrap_i64, int_lt, -Int.not_le, -Int.not_lt, Bool.decide_and, Bool.decide_or, and_assoc, Bool.and_assoc, Bool.or_assoc, Prod.exists, Prod.forall]
  unfold clamp
  refine ⟨fun h => by omega, fun h => ⟨fun h => by omega, fun h => by omega⟩⟩
@[go_sem] theorem zLow_s (σ : AHeap) (n m : Int) (h : 0 ≤ m) (kk_ : AV → AHeap → Prop) : @callP Tryz.prog (.fn 148 [] []) [.int .i64 n, .int .i64 m] σ ⟨kk_⟩ = @Alt (kk_ (.int .i64 (clamp n m)) σ) ⟨@callP Tryz.prog (.fn 148 [] []) [.int .i64 n, .int .i64 m] σ ⟨kk_⟩⟩ := callP_alt (zLow_fn σ n m h)
theorem zPack_fn (σ : AHeap) (val stamp : Int) : Fn Tryz.prog 147 [.int .i64 val, .int .i64 stamp] σ fun x τ => x = .int .u64 (pack val stamp) ∧ τ = σ := by
  refine fn_pure ord0 mixed Tryz.func147 (by kernel_rfl) rfl (by kernel_rfl) (by rfl) ?_
  have h1 := clamp_rng (n := val) (m := 4294967295) (by decide)
  have h2 := clamp_rng (n := stamp) (m := 4294967295) (by decide)
  simp (config := {contextual := true, maxSteps := 1000000}) (disch := first | exact dA | fail) [go_sem, envOf, wrap_i64, int_lt, -Int.not_le, -Int.not_lt, Bool.decide_and, Bool.decide_or, and_assoc, Bool.and_assoc, Bool.or_assoc, Prod.exists, Prod.forall, wrap_u64, pack]
@[go_sem] theorem zPack_s (σ : AHeap) (val stamp : Int) (kk_ : AV → AHeap → Prop) : @callP Tryz.prog (.fn 147 [] []) [.int .i64 val, .int .i64 stamp] σ ⟨kk_⟩ = @Alt (kk_ (.int .u64 (pack val stamp)) σ) ⟨@callP Tryz.prog (.fn 147 [] []) [.int .i64 val, .int .i64 stamp] σ ⟨kk_⟩⟩ := callP_alt (zPack_fn σ val stamp)
theorem zVal_fn (σ : AHeap) (w : Int) (hw : isW w) : Fn Tryz.prog 142 [.int .u64 w] σ fun x τ => x = .int .i64 (cval w) ∧ τ = σ := by
  refine fn_pure ord0 mixed Tryz.func142 (by kernel_rfl) rfl (by kernel_rfl) (by rfl) ?_
  have h := cval_range (w := w)
  have h1 : w.tmod 4294967296 = cval w := Int.tmod_eq_emod_of_nonneg hw.1
  simp (config := {contextual := true, maxSteps := 1000000}) (disch := first | exact dA | fail) [go_sem, envOf, wrap_i64, int_lt, -Int.not_le, -Int.not_lt, Bool.decide_and, Bool.decide_or, and_assoc, Bool.and_assoc, Bool.or_assoc, Prod.exists, Prod.forall, h1]
@[go_sem] theorem zVal_s (σ : AHeap) (w : Int) (hw : isW w) (kk_ : AV → AHeap → Prop) : @callP Tryz.prog (.fn 142 [] []) [.int .u64 w] σ ⟨kk_⟩ = @Alt (kk_ (.int .i64 (cval w)) σ) ⟨@callP Tryz.prog (.fn 142 [] []) [.int .u64 w] σ ⟨kk_⟩⟩ := callP_alt (zVal_fn σ w hw)
@[go_sem] theorem zVal_g (σ : AHeap) (b_ : Bool) (w : Int) (hw : b_ = true →  isW w) (kk_ : AV → AHeap → Prop) : @gC Tryz.prog b_ (.fn 142 [] []) [.int .u64 w] σ ⟨kk_⟩ = @Alt (kk_ (gv b_ (.int .i64 (cval w))) σ) ⟨@gC Tryz.prog b_ (.fn 142 [] []) [.int .u64 w] σ ⟨kk_⟩⟩ := gC_alt b_ fun hb_ => zVal_fn σ w (hw hb_)
theorem zStamp_fn (σ : AHeap) (w : Int) (hw : isW w) : Fn Tryz.prog 149 [.int .u64 w] σ fun x τ => x = .int .i64 (cstamp w) ∧ τ = σ := by
  refine fn_pure ord0 mixed Tryz.func149 (by kernel_rfl) rfl (by kernel_rfl) (by rfl) ?_
  have h := cstamp_range hw
  have h1 : w.tdiv 4294967296 = cstamp w := Int.tdiv_eq_ediv_of_nonneg hw.1
  simp (config := {contextual := true, maxSteps := 1000000}) (disch := first | exact dA | fail) [go_sem, envOf, wrap_i64, int_lt, -Int.not_le, -Int.not_lt, Bool.decide_and, Bool.decide_or, and_assoc, Bool.and_assoc, Bool.or_assoc, Prod.exists, Prod.forall, h1, wrap_u64]
@[go_sem] theorem zStamp_s (σ : AHeap) (w : Int) (hw : isW w) (kk_ : AV → AHeap → Prop) : @callP Tryz.prog (.fn 149 [] []) [.int .u64 w] σ ⟨kk_⟩ = @Alt (kk_ (.int .i64 (cstamp w)) σ) ⟨@callP Tryz.prog (.fn 149 [] []) [.int .u64 w] σ ⟨kk_⟩⟩ := callP_alt (zStamp_fn σ w hw)
@[go_sem] theorem zStamp_g (σ : AHeap) (b_ : Bool) (w : Int) (hw : b_ = true →  isW w) (kk_ : AV → AHeap → Prop) : @gC Tryz.prog b_ (.fn 149 [] []) [.int .u64 w] σ ⟨kk_⟩ = @Alt (kk_ (gv b_ (.int .i64 (cstamp w))) σ) ⟨@gC Tryz.prog b_ (.fn 149 [] []) [.int .u64 w] σ ⟨kk_⟩⟩ := gC_alt b_ fun hb_ => zStamp_fn σ w (hw hb_)
theorem zDoor_fn (σ : AHeap) (state slot epoch stamp : Int) : Fn Tryz.prog 214 [.int .i64 state, .int .i64 slot, .int .i64 epoch, .int .i64 stamp] σ fun x τ => x = .int .u64 (cdoor state slot epoch stamp) ∧ τ = σ := by
  refine fn_pure ord0 mixed Tryz.func214 (by kernel_rfl) rfl (by kernel_rfl) (by rfl) ?_
  have h1 := clamp_rng (n := state) (m := 2) (by decide)
  have h2 := clamp_rng (n := slot) (m := 7) (by decide)
  have h3 := clamp_rng (n := epoch) (m := 4095) (by decide)
  simp (config := {contextual := true, maxSteps := 1000000}) (disch := first | exact dA | fail) [go_sem, envOf, wrap_i64, int_lt, -Int.not_le, -Int.not_lt, Bool.decide_and, Bool.decide_or, and_assoc, Bool.and_assoc, Bool.or_assoc, Prod.exists, Prod.forall, cdoor]
@[go_sem] theorem zDoor_s (σ : AHeap) (state slot epoch stamp : Int) (kk_ : AV → AHeap → Prop) : @callP Tryz.prog (.fn 214 [] []) [.int .i64 state, .int .i64 slot, .int .i64 epoch, .int .i64 stamp] σ ⟨kk_⟩ = @Alt (kk_ (.int .u64 (cdoor state slot epoch stamp)) σ) ⟨@callP Tryz.prog (.fn 214 [] []) [.int .i64 state, .int .i64 slot, .int .i64 epoch, .int .i64 stamp] σ ⟨kk_⟩⟩ := callP_alt (zDoor_fn σ state slot epoch stamp)
theorem zReg_fn (σ : AHeap) (state epoch stamp : Int) : Fn Tryz.prog 209 [.int .i64 state, .int .i64 epoch, .int .i64 stamp] σ fun x τ => x = .int .u64 (creg state epoch stamp) ∧ τ = σ := by
  refine fn_pure ord0 mixed Tryz.func209 (by kernel_rfl) rfl (by kernel_rfl) (by rfl) ?_
  have h1 := clamp_rng (n := state) (m := 2) (by decide)
  have h3 := clamp_rng (n := epoch) (m := 4095) (by decide)
  simp (config := {contextual := true, maxSteps := 1000000}) (disch := first | exact dA | fail) [go_sem, envOf, wrap_i64, int_lt, -Int.not_le, -Int.not_lt, Bool.decide_and, Bool.decide_or, and_assoc, Bool.and_assoc, Bool.or_assoc, Prod.exists, Prod.forall, creg]
@[go_sem] theorem zReg_s (σ : AHeap) (state epoch stamp : Int) (kk_ : AV → AHeap → Prop) : @callP Tryz.prog (.fn 209 [] []) [.int .i64 state, .int .i64 epoch, .int .i64 stamp] σ ⟨kk_⟩ = @Alt (kk_ (.int .u64 (creg state epoch stamp)) σ) ⟨@callP Tryz.prog (.fn 209 [] []) [.int .i64 state, .int .i64 epoch, .int .i64 stamp] σ ⟨kk_⟩⟩ := callP_alt (zReg_fn σ state epoch stamp)
theorem zEntry_fn (σ : AHeap) (addr val stamp : Int) : Fn Tryz.prog 177 [.int .i64 addr, .int .i64 val, .int .i64 stamp] σ fun x τ => x = .int .u64 (centry addr val stamp) ∧ τ = σ := by
  refine fn_pure ord0 mixed Tryz.func177 (by kernel_rfl) rfl (by kernel_rfl) (by rfl) ?_
  have h1 := clamp_rng (n := addr) (m := 4095) (by decide)
  have h3 := clamp_rng (n := val) (m := 1048575) (by decide)
  simp (config := {contextual := true, maxSteps := 1000000}) (disch := first | exact dA | fail) [go_sem, envOf, wrap_i64, int_lt, -Int.not_le, -Int.not_lt, Bool.decide_and, Bool.decide_or, and_assoc, Bool.and_assoc, Bool.or_assoc, Prod.exists, Prod.forall, centry]
@[go_sem] theorem zEntry_s (σ : AHeap) (addr val stamp : Int) (kk_ : AV → AHeap → Prop) : @callP Tryz.prog (.fn 177 [] []) [.int .i64 addr, .int .i64 val, .int .i64 stamp] σ ⟨kk_⟩ = @Alt (kk_ (.int .u64 (centry addr val stamp)) σ) ⟨@callP Tryz.prog (.fn 177 [] []) [.int .i64 addr, .int .i64 val, .int .i64 stamp] σ ⟨kk_⟩⟩ := callP_alt (zEntry_fn σ addr val stamp)
theorem zRegOf_fn (σ : AHeap) (w : Int) (hw : isW w) : Fn Tryz.prog 171 [.int .u64 w] σ fun x τ => x = .tup [.int .i64 (cval w % 4), .int .i64 (cval w / 4)] ∧ τ = σ := by
  refine fn_pure ord0 mixed Tryz.func171 (by kernel_rfl) rfl (by kernel_rfl) (by rfl) ?_
  have h := cval_range (w := w)
  simp (config := {contextual := true, maxSteps := 1000000}) (disch := first | exact dA | fail) [go_sem, envOf, wrap_i64, int_lt, -Int.not_le, -Int.not_lt, Bool.decide_and, Bool.decide_or, and_assoc, Bool.and_assoc, Bool.or_assoc, Prod.exists, Prod.forall, Int.tdiv_eq_ediv_of_nonneg, Int.tmod_eq_emod_of_nonneg]
@[go_sem] theorem zRegOf_s (σ : AHeap) (w : Int) (hw : isW w) (kk_ : AV → AHeap → Prop) : @callP Tryz.prog (.fn 171 [] []) [.int .u64 w] σ ⟨kk_⟩ = @Alt (kk_ (.tup [.int .i64 (cval w % 4), .int .i64 (cval w / 4)]) σ) ⟨@callP Tryz.prog (.fn 171 [] []) [.int .u64 w] σ ⟨kk_⟩⟩ := callP_alt (zRegOf_fn σ w hw)
theorem zDoorOf_fn (σ : AHeap) (w : Int) (hw : isW w) : Fn Tryz.prog 170 [.int .u64 w] σ fun x τ => x = .tup [.int .i64 (cval w % 4), .int .i64 (cval w / 4 % 8), .int .i64 (cval w / 32)] ∧ τ = σ := by
  refine fn_pure ord0 mixed Tryz.func170 (by kernel_rfl) rfl (by kernel_rfl) (by rfl) ?_
  have h := cval_range (w := w)
  simp (config := {contextual := true, maxSteps := 1000000}) (disch := first | exact dA | fail) [go_sem, envOf, wrap_i64, int_lt, -Int.not_le, -Int.not_lt, Bool.decide_and, Bool.decide_or, and_assoc, Bool.and_assoc, Bool.or_assoc, Prod.exists, Prod.forall, Int.tdiv_eq_ediv_of_nonneg, Int.tmod_eq_emod_of_nonneg]
@[go_sem] theorem zDoorOf_s (σ : AHeap) (w : Int) (hw : isW w) (kk_ : AV → AHeap → Prop) : @callP Tryz.prog (.fn 170 [] []) [.int .u64 w] σ ⟨kk_⟩ = @Alt (kk_ (.tup [.int .i64 (cval w % 4), .int .i64 (cval w / 4 % 8), .int .i64 (cval w / 32)]) σ) ⟨@callP Tryz.prog (.fn 170 [] []) [.int .u64 w] σ ⟨kk_⟩⟩ := callP_alt (zDoorOf_fn σ w hw)
theorem zEntryOf_fn (σ : AHeap) (w : Int) (hw : isW w) : Fn Tryz.prog 216 [.int .u64 w] σ fun x τ => x = .tup [.int .i64 (cval w / 1048576), .int .i64 (cval w % 1048576)] ∧ τ = σ := by
  refine fn_pure ord0 mixed Tryz.func216 (by kernel_rfl) rfl (by kernel_rfl) (by rfl) ?_
  have h := cval_range (w := w)
  simp (config := {contextual := true, maxSteps := 1000000}) (disch := first | exact dA | fail) [go_sem, envOf, wrap_i64, int_lt, -Int.not_le, -Int.not_lt, Bool.decide_and, Bool.decide_or, and_assoc, Bool.and_assoc, Bool.or_assoc, Prod.exists, Prod.forall, Int.tdiv_eq_ediv_of_nonneg, Int.tmod_eq_emod_of_nonneg]
@[go_sem] theorem zEntryOf_s (σ : AHeap) (w : Int) (hw : isW w) (kk_ : AV → AHeap → Prop) : @callP Tryz.prog (.fn 216 [] []) [.int .u64 w] σ ⟨kk_⟩ = @Alt (kk_ (.tup [.int .i64 (cval w / 1048576), .int .i64 (cval w % 1048576)]) σ) ⟨@callP Tryz.prog (.fn 216 [] []) [.int .u64 w] σ ⟨kk_⟩⟩ := callP_alt (zEntryOf_fn σ w hw)
abbrev cV (s p l : Int) : AV := .agg [.int .i64 s, .int .i64 p, .int .i64 l]
theorem zPlatOk_fn (σ : AHeap) (s p l : Int) : Fn Tryz.prog 16 [cV s p l] σ fun x τ => x = .bool (decide (Cfg.ok ⟨s, p, l⟩)) ∧ τ = σ := by
  refine fn_pure ord0 mixed Tryz.func16 (by kernel_rfl) rfl (by kernel_rfl) (by rfl) ?_
  simp (config := {contextual := true, maxSteps := 1000000}) (disch := first | exact dA | fail) [go_sem, envOf, wrap_i64, int_lt, -Int.not_le, -Int.not_lt, Bool.decide_and, Bool.decide_or, and_assoc, Bool.and_assoc, Bool.or_assoc, Prod.exists, Prod.forall, ok_dec]
@[go_sem] theorem zPlatOk_s (σ : AHeap) (s p l : Int) (kk_ : AV → AHeap → Prop) : @callP Tryz.prog (.fn 16 [] []) [cV s p l] σ ⟨kk_⟩ = @Alt (kk_ (.bool (decide (Cfg.ok ⟨s, p, l⟩))) σ) ⟨@callP Tryz.prog (.fn 16 [] []) [cV s p l] σ ⟨kk_⟩⟩ := callP_alt (zPlatOk_fn σ s p l)
theorem zHouse_fn (σ : AHeap) (s p l : Int) (hs : 0 ≤ s ∧ s ≤ 1000) (hp : 0 ≤ p ∧ p ≤ 1000) : Fn Tryz.prog 83 [cV s p l] σ fun x τ => x = .int .i64 (house ⟨s, p, l⟩) ∧ τ = σ := by
  refine fn_pure ord0 mixed Tryz.func83 (by kernel_rfl) rfl (by kernel_rfl) (by rfl) ?_
  simp (config := {contextual := true, maxSteps := 1000000}) (disch := first | exact dA | fail) [go_sem, envOf, wrap_i64, int_lt, -Int.not_le, -Int.not_lt, Bool.decide_and, Bool.decide_or, and_assoc, Bool.and_assoc, Bool.or_assoc, Prod.exists, Prod.forall, house]
  omega
@[go_sem] theorem zHouse_s (σ : AHeap) (s p l : Int) (hs : 0 ≤ s ∧ s ≤ 1000) (hp : 0 ≤ p ∧ p ≤ 1000) (kk_ : AV → AHeap → Prop) : @callP Tryz.prog (.fn 83 [] []) [cV s p l] σ ⟨kk_⟩ = @Alt (kk_ (.int .i64 (house ⟨s, p, l⟩)) σ) ⟨@callP Tryz.prog (.fn 83 [] []) [cV s p l] σ ⟨kk_⟩⟩ := callP_alt (zHouse_fn σ s p l hs hp)
@[go_sem] theorem zHouse_g (σ : AHeap) (b_ : Bool) (s p l : Int) (hs : b_ = true →  0 ≤ s ∧ s ≤ 1000) (hp : b_ = true →  0 ≤ p ∧ p ≤ 1000) (kk_ : AV → AHeap → Prop) : @gC Tryz.prog b_ (.fn 83 [] []) [cV s p l] σ ⟨kk_⟩ = @Alt (kk_ (gv b_ (.int .i64 (house ⟨s, p, l⟩))) σ) ⟨@gC Tryz.prog b_ (.fn 83 [] []) [cV s p l] σ ⟨kk_⟩⟩ := gC_alt b_ fun hb_ => zHouse_fn σ s p l (hs hb_) (hp hb_)
abbrev okc (s p l : Int) : Cfg := ⟨s, p, l⟩
theorem zSize_fn (σ : AHeap) (s p l : Int) (hs : 0 ≤ s ∧ s ≤ 1000) (hp : 0 ≤ p ∧ p ≤ 1000) : Fn Tryz.prog 144 [cV s p l] σ fun x τ => x = .int .i64 (Cfg.size ⟨s, p, l⟩) ∧ τ = σ := by
  refine fn_pure ord144 mixed Tryz.func144 (by kernel_rfl) rfl (by kernel_rfl) (by rfl) ?_
  simp (config := {contextual := true, maxSteps := 1000000}) (disch := first | exact dA | fail) [go_sem, envOf, wrap_i64, int_lt, -Int.not_le, -Int.not_lt, Bool.decide_and, Bool.decide_or, and_assoc, Bool.and_assoc, Bool.or_assoc, Prod.exists, Prod.forall, ord144, house, Cfg.size]
  all_goals ((repeat refine Alt.mk ?_) <;> first | done | omega | (congr 1; omega) | (intros; omega) | grind)
@[go_sem] theorem zSize_s (σ : AHeap) (s p l : Int) (hs : 0 ≤ s ∧ s ≤ 1000) (hp : 0 ≤ p ∧ p ≤ 1000) (kk_ : AV → AHeap → Prop) : @callP Tryz.prog (.fn 144 [] []) [cV s p l] σ ⟨kk_⟩ = @Alt (kk_ (.int .i64 (Cfg.size ⟨s, p, l⟩)) σ) ⟨@callP Tryz.prog (.fn 144 [] []) [cV s p l] σ ⟨kk_⟩⟩ := callP_alt (zSize_fn σ s p l hs hp)
@[go_sem] theorem zSize_g (σ : AHeap) (b_ : Bool) (s p l : Int) (hs : b_ = true →  0 ≤ s ∧ s ≤ 1000) (hp : b_ = true →  0 ≤ p ∧ p ≤ 1000) (kk_ : AV → AHeap → Prop) : @gC Tryz.prog b_ (.fn 144 [] []) [cV s p l] σ ⟨kk_⟩ = @Alt (kk_ (gv b_ (.int .i64 (Cfg.size ⟨s, p, l⟩))) σ) ⟨@gC Tryz.prog b_ (.fn 144 [] []) [cV s p l] σ ⟨kk_⟩⟩ := gC_alt b_ fun hb_ => zSize_fn σ s p l (hs hb_) (hp hb_)
theorem zAt_fn (σ : AHeap) (s p l a n most : Int) (ha : 0 ≤ a ∧ a ≤ 1000) (hm : most ≤ 1000) : Fn Tryz.prog 223 [cV s p l, .int .i64 a, .int .i64 n, .int .i64 most, .int .i64 1] σ fun x τ => x = .int .i64 (l2At ⟨s, p, l⟩ a n most 1) ∧ τ = σ := by
  refine fn_pure ord0 mixed Tryz.func223 (by kernel_rfl) rfl (by kernel_rfl) (by rfl) ?_
  simp (config := {contextual := true, maxSteps := 1000000}) (disch := first | exact dA | fail) [go_sem, envOf, wrap_i64, int_lt, -Int.not_le, -Int.not_lt, Bool.decide_and, Bool.decide_or, and_assoc, Bool.and_assoc, Bool.or_assoc, Prod.exists, Prod.forall, l2At]
  all_goals ((repeat refine Alt.mk ?_) <;> first | done | omega | (congr 1; omega) | (intros; omega) | grind)
@[go_sem] theorem zAt_s (σ : AHeap) (s p l a n most : Int) (ha : 0 ≤ a ∧ a ≤ 1000) (hm : most ≤ 1000) (kk_ : AV → AHeap → Prop) : @callP Tryz.prog (.fn 223 [] []) [cV s p l, .int .i64 a, .int .i64 n, .int .i64 most, .int .i64 1] σ ⟨kk_⟩ = @Alt (kk_ (.int .i64 (l2At ⟨s, p, l⟩ a n most 1)) σ) ⟨@callP Tryz.prog (.fn 223 [] []) [cV s p l, .int .i64 a, .int .i64 n, .int .i64 most, .int .i64 1] σ ⟨kk_⟩⟩ := callP_alt (zAt_fn σ s p l a n most ha hm)
theorem zAt21_fn (σ : AHeap) (s p l a n most : Int) (ha : 0 ≤ a ∧ a ≤ 1000) (hm : most ≤ 1000) : Fn Tryz.prog 223 [cV s p l, .int .i64 a, .int .i64 n, .int .i64 most, .int .i64 21] σ fun x τ => x = .int .i64 (l2At ⟨s, p, l⟩ a n most 21) ∧ τ = σ := by
  refine fn_pure ord0 mixed Tryz.func223 (by kernel_rfl) rfl (by kernel_rfl) (by rfl) ?_
  simp (config := {contextual := true, maxSteps := 1000000}) (disch := first | exact dA | fail) [go_sem, envOf, wrap_i64, int_lt, -Int.not_le, -Int.not_lt, Bool.decide_and, Bool.decide_or, and_assoc, Bool.and_assoc, Bool.or_assoc, Prod.exists, Prod.forall, l2At]
  all_goals ((repeat refine Alt.mk ?_) <;> first | done | omega | (congr 1; omega) | (intros; omega) | grind)
@[go_sem] theorem zAt21_s (σ : AHeap) (s p l a n most : Int) (ha : 0 ≤ a ∧ a ≤ 1000) (hm : most ≤ 1000) (kk_ : AV → AHeap → Prop) : @callP Tryz.prog (.fn 223 [] []) [cV s p l, .int .i64 a, .int .i64 n, .int .i64 most, .int .i64 21] σ ⟨kk_⟩ = @Alt (kk_ (.int .i64 (l2At ⟨s, p, l⟩ a n most 21)) σ) ⟨@callP Tryz.prog (.fn 223 [] []) [cV s p l, .int .i64 a, .int .i64 n, .int .i64 most, .int .i64 21] σ ⟨kk_⟩⟩ := callP_alt (zAt21_fn σ s p l a n most ha hm)
theorem zPReg_fn (σ : AHeap) (s p l n : Int) (hs : 0 ≤ s ∧ s ≤ 1000) : Fn Tryz.prog 172 [cV s p l, .int .i64 n] σ fun x τ => x = .int .i64 (pReg ⟨s, p, l⟩ n) ∧ τ = σ := by
  refine fn_pure ord0 mixed Tryz.func172 (by kernel_rfl) rfl (by kernel_rfl) (by rfl) ?_
  simp (config := {contextual := true, maxSteps := 1000000}) (disch := first | exact dA | fail) [go_sem, envOf, wrap_i64, int_lt, -Int.not_le, -Int.not_lt, Bool.decide_and, Bool.decide_or, and_assoc, Bool.and_assoc, Bool.or_assoc, Prod.exists, Prod.forall, pReg]
@[go_sem] theorem zPReg_s (σ : AHeap) (s p l n : Int) (hs : 0 ≤ s ∧ s ≤ 1000) (kk_ : AV → AHeap → Prop) : @callP Tryz.prog (.fn 172 [] []) [cV s p l, .int .i64 n] σ ⟨kk_⟩ = @Alt (kk_ (.int .i64 (pReg ⟨s, p, l⟩ n)) σ) ⟨@callP Tryz.prog (.fn 172 [] []) [cV s p l, .int .i64 n] σ ⟨kk_⟩⟩ := callP_alt (zPReg_fn σ s p l n hs)
theorem zPBeat_fn (σ : AHeap) (s p l n : Int) (hs : 0 ≤ s ∧ s ≤ 100) : Fn Tryz.prog 173 [cV s p l, .int .i64 n] σ fun x τ => x = .int .i64 (pBeat ⟨s, p, l⟩ n) ∧ τ = σ := by
  refine fn_pure ord0 mixed Tryz.func173 (by kernel_rfl) rfl (by kernel_rfl) (by rfl) ?_
  simp (config := {contextual := true, maxSteps := 1000000}) (disch := first | exact dA | fail) [go_sem, envOf, wrap_i64, int_lt, -Int.not_le, -Int.not_lt, Bool.decide_and, Bool.decide_or, and_assoc, Bool.and_assoc, Bool.or_assoc, Prod.exists, Prod.forall, pBeat]
@[go_sem] theorem zPBeat_s (σ : AHeap) (s p l n : Int) (hs : 0 ≤ s ∧ s ≤ 100) (kk_ : AV → AHeap → Prop) : @callP Tryz.prog (.fn 173 [] []) [cV s p l, .int .i64 n] σ ⟨kk_⟩ = @Alt (kk_ (.int .i64 (pBeat ⟨s, p, l⟩ n)) σ) ⟨@callP Tryz.prog (.fn 173 [] []) [cV s p l, .int .i64 n] σ ⟨kk_⟩⟩ := callP_alt (zPBeat_fn σ s p l n hs)
theorem zPHead_fn (σ : AHeap) (s p l n : Int) (hs : 0 ≤ s ∧ s ≤ 100) : Fn Tryz.prog 227 [cV s p l, .int .i64 n] σ fun x τ => x = .int .i64 (pHead ⟨s, p, l⟩ n) ∧ τ = σ := by
  refine fn_pure ord0 mixed Tryz.func227 (by kernel_rfl) rfl (by kernel_rfl) (by rfl) ?_
  simp (config := {contextual := true, maxSteps := 1000000}) (disch := first | exact dA | fail) [go_sem, envOf, wrap_i64, int_lt, -Int.not_le, -Int.not_lt, Bool.decide_and, Bool.decide_or, and_assoc, Bool.and_assoc, Bool.or_assoc, Prod.exists, Prod.forall, pHead]
@[go_sem] theorem zPHead_s (σ : AHeap) (s p l n : Int) (hs : 0 ≤ s ∧ s ≤ 100) (kk_ : AV → AHeap → Prop) : @callP Tryz.prog (.fn 227 [] []) [cV s p l, .int .i64 n] σ ⟨kk_⟩ = @Alt (kk_ (.int .i64 (pHead ⟨s, p, l⟩ n)) σ) ⟨@callP Tryz.prog (.fn 227 [] []) [cV s p l, .int .i64 n] σ ⟨kk_⟩⟩ := callP_alt (zPHead_fn σ s p l n hs)
theorem zPPage_fn (σ : AHeap) (s p l n : Int) (hs : 0 ≤ s ∧ s ≤ 10) (hp : 0 ≤ p ∧ p ≤ 10) : Fn Tryz.prog 225 [cV s p l, .int .i64 n] σ fun x τ => x = .int .i64 (pPage ⟨s, p, l⟩ n) ∧ τ = σ := by
  refine fn_pure ord0 mixed Tryz.func225 (by kernel_rfl) rfl (by kernel_rfl) (by rfl) ?_
  simp (config := {contextual := true, maxSteps := 1000000}) (disch := first | exact dA | fail) [go_sem, envOf, wrap_i64, int_lt, -Int.not_le, -Int.not_lt, Bool.decide_and, Bool.decide_or, and_assoc, Bool.and_assoc, Bool.or_assoc, Prod.exists, Prod.forall, pPage]
  all_goals ((repeat refine Alt.mk ?_) <;> first | done | omega | (congr 1; omega) | (intros; omega) | grind)
@[go_sem] theorem zPPage_s (σ : AHeap) (s p l n : Int) (hs : 0 ≤ s ∧ s ≤ 10) (hp : 0 ≤ p ∧ p ≤ 10) (kk_ : AV → AHeap → Prop) : @callP Tryz.prog (.fn 225 [] []) [cV s p l, .int .i64 n] σ ⟨kk_⟩ = @Alt (kk_ (.int .i64 (pPage ⟨s, p, l⟩ n)) σ) ⟨@callP Tryz.prog (.fn 225 [] []) [cV s p l, .int .i64 n] σ ⟨kk_⟩⟩ := callP_alt (zPPage_fn σ s p l n hs hp)
theorem zPTag_fn (σ : AHeap) (s p l n : Int) (hs : 0 ≤ s ∧ s ≤ 10) (hp : 0 ≤ p ∧ p ≤ 10) : Fn Tryz.prog 226 [cV s p l, .int .i64 n] σ fun x τ => x = .int .i64 (pTag ⟨s, p, l⟩ n) ∧ τ = σ := by
  refine fn_pure ord0 mixed Tryz.func226 (by kernel_rfl) rfl (by kernel_rfl) (by rfl) ?_
  simp (config := {contextual := true, maxSteps := 1000000}) (disch := first | exact dA | fail) [go_sem, envOf, wrap_i64, int_lt, -Int.not_le, -Int.not_lt, Bool.decide_and, Bool.decide_or, and_assoc, Bool.and_assoc, Bool.or_assoc, Prod.exists, Prod.forall, pTag]
  all_goals ((repeat refine Alt.mk ?_) <;> first | done | omega | (congr 1; omega) | (intros; omega) | grind)
@[go_sem] theorem zPTag_s (σ : AHeap) (s p l n : Int) (hs : 0 ≤ s ∧ s ≤ 10) (hp : 0 ≤ p ∧ p ≤ 10) (kk_ : AV → AHeap → Prop) : @callP Tryz.prog (.fn 226 [] []) [cV s p l, .int .i64 n] σ ⟨kk_⟩ = @Alt (kk_ (.int .i64 (pTag ⟨s, p, l⟩ n)) σ) ⟨@callP Tryz.prog (.fn 226 [] []) [cV s p l, .int .i64 n] σ ⟨kk_⟩⟩ := callP_alt (zPTag_fn σ s p l n hs hp)
theorem zPLink_fn (σ : AHeap) (s p l n : Int) (hs : 0 ≤ s ∧ s ≤ 10) (hp : 0 ≤ p ∧ p ≤ 10) : Fn Tryz.prog 228 [cV s p l, .int .i64 n] σ fun x τ => x = .int .i64 (pLink ⟨s, p, l⟩ n) ∧ τ = σ := by
  refine fn_pure ord0 mixed Tryz.func228 (by kernel_rfl) rfl (by kernel_rfl) (by rfl) ?_
  simp (config := {contextual := true, maxSteps := 1000000}) (disch := first | exact dA | fail) [go_sem, envOf, wrap_i64, int_lt, -Int.not_le, -Int.not_lt, Bool.decide_and, Bool.decide_or, and_assoc, Bool.and_assoc, Bool.or_assoc, Prod.exists, Prod.forall, pLink]
  all_goals ((repeat refine Alt.mk ?_) <;> first | done | omega | (congr 1; omega) | (intros; omega) | grind)
@[go_sem] theorem zPLink_s (σ : AHeap) (s p l n : Int) (hs : 0 ≤ s ∧ s ≤ 10) (hp : 0 ≤ p ∧ p ≤ 10) (kk_ : AV → AHeap → Prop) : @callP Tryz.prog (.fn 228 [] []) [cV s p l, .int .i64 n] σ ⟨kk_⟩ = @Alt (kk_ (.int .i64 (pLink ⟨s, p, l⟩ n)) σ) ⟨@callP Tryz.prog (.fn 228 [] []) [cV s p l, .int .i64 n] σ ⟨kk_⟩⟩ := callP_alt (zPLink_fn σ s p l n hs hp)
theorem zPDesk_fn (σ : AHeap) (s p l n : Int) (hs : 0 ≤ s ∧ s ≤ 10) (hp : 0 ≤ p ∧ p ≤ 10) : Fn Tryz.prog 211 [cV s p l, .int .i64 n] σ fun x τ => x = .int .i64 (pDesk ⟨s, p, l⟩ n) ∧ τ = σ := by
  refine fn_pure ord211 mixed Tryz.func211 (by kernel_rfl) rfl (by kernel_rfl) (by rfl) ?_
  simp (config := {contextual := true, maxSteps := 1000000}) (disch := first | exact dA | fail) [go_sem, envOf, wrap_i64, int_lt, -Int.not_le, -Int.not_lt, Bool.decide_and, Bool.decide_or, and_assoc, Bool.and_assoc, Bool.or_assoc, Prod.exists, Prod.forall, ord211, pDesk, house]
@[go_sem] theorem zPDesk_s (σ : AHeap) (s p l n : Int) (hs : 0 ≤ s ∧ s ≤ 10) (hp : 0 ≤ p ∧ p ≤ 10) (kk_ : AV → AHeap → Prop) : @callP Tryz.prog (.fn 211 [] []) [cV s p l, .int .i64 n] σ ⟨kk_⟩ = @Alt (kk_ (.int .i64 (pDesk ⟨s, p, l⟩ n)) σ) ⟨@callP Tryz.prog (.fn 211 [] []) [cV s p l, .int .i64 n] σ ⟨kk_⟩⟩ := callP_alt (zPDesk_fn σ s p l n hs hp)
theorem zMagic_fn (σ : AHeap) (s p l : Int) (hs : 0 ≤ s ∧ s ≤ 10) (hp : 0 ≤ p ∧ p ≤ 10) (hl : 0 ≤ l ∧ l ≤ 100000000) : Fn Tryz.prog 143 [cV s p l] σ fun x τ => x = .int .u64 (magic ⟨s, p, l⟩) ∧ τ = σ := by
  refine fn_pure ord0 mixed Tryz.func143 (by kernel_rfl) rfl (by kernel_rfl) (by rfl) ?_
  simp (config := {contextual := true, maxSteps := 1000000}) (disch := first | exact dA | fail) [go_sem, envOf, wrap_i64, int_lt, -Int.not_le, -Int.not_lt, Bool.decide_and, Bool.decide_or, and_assoc, Bool.and_assoc, Bool.or_assoc, Prod.exists, Prod.forall, magic]
@[go_sem] theorem zMagic_s (σ : AHeap) (s p l : Int) (hs : 0 ≤ s ∧ s ≤ 10) (hp : 0 ≤ p ∧ p ≤ 10) (hl : 0 ≤ l ∧ l ≤ 100000000) (kk_ : AV → AHeap → Prop) : @callP Tryz.prog (.fn 143 [] []) [cV s p l] σ ⟨kk_⟩ = @Alt (kk_ (.int .u64 (magic ⟨s, p, l⟩)) σ) ⟨@callP Tryz.prog (.fn 143 [] []) [cV s p l] σ ⟨kk_⟩⟩ := callP_alt (zMagic_fn σ s p l hs hp hl)
@[go_sem] theorem zMagic_g (σ : AHeap) (b_ : Bool) (s p l : Int) (hs : b_ = true →  0 ≤ s ∧ s ≤ 10) (hp : b_ = true →  0 ≤ p ∧ p ≤ 10) (hl : b_ = true →  0 ≤ l ∧ l ≤ 100000000) (kk_ : AV → AHeap → Prop) : @gC Tryz.prog b_ (.fn 143 [] []) [cV s p l] σ ⟨kk_⟩ = @Alt (kk_ (gv b_ (.int .u64 (magic ⟨s, p, l⟩))) σ) ⟨@gC Tryz.prog b_ (.fn 143 [] []) [cV s p l] σ ⟨kk_⟩⟩ := gC_alt b_ fun hb_ => zMagic_fn σ s p l (hs hb_) (hp hb_) (hl hb_)
theorem zLoad_fn (σ : AHeap) (v : AV) (ws : List Int) (a : Int) (hv : LsV .u64 σ v ws) : Fn Tryz.prog 256 [v, .int .i64 a] σ fun x τ => x = .int .u64 (pload ws a) ∧ τ = σ := by
  refine fn_pure ord0 mixed Tryz.func256 (by kernel_rfl) rfl (by kernel_rfl) (by rfl) ?_
  simp (config := {contextual := true, maxSteps := 1000000}) (disch := first | exact dA | fail) [go_sem, envOf, wrap_i64, int_lt, -Int.not_le, -Int.not_lt, Bool.decide_and, Bool.decide_or, and_assoc, Bool.and_assoc, Bool.or_assoc, Prod.exists, Prod.forall, pload]
@[go_sem] theorem zLoad_s (σ : AHeap) (v : AV) (ws : List Int) (a : Int) (hv : LsV .u64 σ v ws) (kk_ : AV → AHeap → Prop) : @callP Tryz.prog (.fn 256 [] []) [v, .int .i64 a] σ ⟨kk_⟩ = @Alt (kk_ (.int .u64 (pload ws a)) σ) ⟨@callP Tryz.prog (.fn 256 [] []) [v, .int .i64 a] σ ⟨kk_⟩⟩ := callP_alt (zLoad_fn σ v ws a hv)
end AH
/- CONTRACTS OF THE REFERENCE: what is asked of a book. -/
namespace AH
open Go Go.Proofs Ho
set_option maxRecDepth 10000
set_option maxHeartbeats 4000000
/-- Numbers of which no sum wraps. -/
def Sm (xs : List Int) : Prop := (xs.length : Int) ≤ 1000000 ∧ ∀ j : Int, -1000000000000 ≤ at_ xs j ∧ at_ xs j ≤ 1000000000000
structure BkV (σ : AHeap) (b : Bk) (pv h0 h1 h2 h3 ov iv ev : AV) : Prop where
  p : LsV .i64 σ pv b.pages
  h0 : LsV .i64 σ h0 (b.heads 0)
  h1 : LsV .i64 σ h1 (b.heads 1)
  h2 : LsV .i64 σ h2 (b.heads 2)
  h3 : LsV .i64 σ h3 (b.heads 3)
  o : LsV .i64 σ ov b.owner
  i : LsV .i64 σ iv b.inn
  e : LsV .i64 σ ev b.epoch
theorem BkV.push {σ : AHeap} {b : Bk} {pv h0 h1 h2 h3 ov iv ev : AV} (h : BkV σ b pv h0 h1 h2 h3 ov iv ev) {B : ABlk} : BkV (σ.push B) b pv h0 h1 h2 h3 ov iv ev :=
  ⟨h.p.push, h.h0.push, h.h1.push, h.h2.push, h.h3.push, h.o.push, h.i.push, h.e.push⟩
structure BkS (b : Bk) : Prop where
  s : -1000000 ≤ b.slots ∧ b.slots ≤ 1000000
  p : Sm b.pages
  h : ∀ k, Sm (b.heads k)
  o : Sm b.owner
  i : Sm b.inn
  e : Sm b.epoch
abbrev bV (b : Bk) (pv h0 h1 h2 h3 ov iv ev : AV) : AV := .agg [.int .i64 b.slots, pv, h0, h1, h2, h3, ov, iv, ev]
theorem take_at {xs : List Int} {i : Int} (h0 : 0 ≤ i) (h1 : i < xs.length) : xs.take (i + 1).toNat = xs.take i.toNat ++ [at_ xs i] := by
  rw [show (i + 1).toNat = i.toNat + 1 by omega, List.take_add_one, List.getElem?_eq_getElem (by omega)]
  simp [at_, show i.toNat < xs.length by omega]
theorem at_hi {xs : List Int} {i : Int} (h0 : 0 ≤ i) (h1 : (xs.length : Int) ≤ i) : at_ xs i = 0 := by
  unfold at_; rw [List.getD_eq_getElem?_getD, List.getElem?_eq_none (by omega)]; rfl
theorem zKind_fn (σ : AHeap) (s : Int) (h : -1000000000000 ≤ s ∧ s ≤ 1000000000000) : Fn Tryz.prog 183 [.int .i64 s] σ fun x τ => x = .int .i64 (kindOf s) ∧ τ = σ := by
  refine fn_pure ord0 mixed Tryz.func183 (by kernel_rfl) rfl (by kernel_rfl) (by rfl) ?_
  simp (config := {contextual := true, maxSteps := 1000000}) (disch := first | exact dA | fail) [go_sem, envOf, wrap_i64, int_lt, -Int.not_le, -Int.not_lt, Bool.decide_and, Bool.decide_or, and_assoc, Bool.and_assoc, Bool.or_assoc, Prod.exists, Prod.forall, kindOf]
  all_goals ((repeat refine Alt.mk ?_) <;> first | done | omega | (congr 1; omega) | (intros; omega) | grind)
@[go_sem] theorem zKind_s (σ : AHeap) (s : Int) (h : -1000000000000 ≤ s ∧ s ≤ 1000000000000) (kk_ : AV → AHeap → Prop) : @callP Tryz.prog (.fn 183 [] []) [.int .i64 s] σ ⟨kk_⟩ = @Alt (kk_ (.int .i64 (kindOf s)) σ) ⟨@callP Tryz.prog (.fn 183 [] []) [.int .i64 s] σ ⟨kk_⟩⟩ := callP_alt (zKind_fn σ s h)
@[go_sem] theorem zKind_g (σ : AHeap) (b_ : Bool) (s : Int) (h : b_ = true →  -1000000000000 ≤ s ∧ s ≤ 1000000000000) (kk_ : AV → AHeap → Prop) : @gC Tryz.prog b_ (.fn 183 [] []) [.int .i64 s] σ ⟨kk_⟩ = @Alt (kk_ (gv b_ (.int .i64 (kindOf s))) σ) ⟨@gC Tryz.prog b_ (.fn 183 [] []) [.int .i64 s] σ ⟨kk_⟩⟩ := gC_alt b_ fun hb_ => zKind_fn σ s (h hb_)
theorem zSz_fn (σ : AHeap) (k : Int) (h : 0 ≤ k ∧ k < 4) : Fn Tryz.prog 184 [.int .i64 k] σ fun x τ => x = .int .i64 (sz k) ∧ τ = σ := by
  refine fn_pure ord0 mixed Tryz.func184 (by kernel_rfl) rfl (by kernel_rfl) (by rfl) ?_
  have : k = 0 ∨ k = 1 ∨ k = 2 ∨ k = 3 := by omega
  rcases this with rfl | rfl | rfl | rfl <;> simp (config := {contextual := true, maxSteps := 1000000}) (disch := first | exact dA | fail) [go_sem, envOf, wrap_i64, int_lt, -Int.not_le, -Int.not_lt, Bool.decide_and, Bool.decide_or, and_assoc, Bool.and_assoc, Bool.or_assoc, Prod.exists, Prod.forall, sz, at_]
@[go_sem] theorem zSz_s (σ : AHeap) (k : Int) (h : 0 ≤ k ∧ k < 4) (kk_ : AV → AHeap → Prop) : @callP Tryz.prog (.fn 184 [] []) [.int .i64 k] σ ⟨kk_⟩ = @Alt (kk_ (.int .i64 (sz k)) σ) ⟨@callP Tryz.prog (.fn 184 [] []) [.int .i64 k] σ ⟨kk_⟩⟩ := callP_alt (zSz_fn σ k h)
@[go_sem] theorem zSz_g (σ : AHeap) (b_ : Bool) (k : Int) (h : b_ = true →  0 ≤ k ∧ k < 4) (kk_ : AV → AHeap → Prop) : @gC Tryz.prog b_ (.fn 184 [] []) [.int .i64 k] σ ⟨kk_⟩ = @Alt (kk_ (gv b_ (.int .i64 (sz k))) σ) ⟨@gC Tryz.prog b_ (.fn 184 [] []) [.int .i64 k] σ ⟨kk_⟩⟩ := gC_alt b_ fun hb_ => zSz_fn σ k (h hb_)
theorem zIn_fn (σ : AHeap) (v : AV) (xs : List Int) (a : Int) (hv : LsV .i64 σ v xs) (hl : Sm xs) : Fn Tryz.prog 230 [v, .int .i64 a] σ fun x τ => x = .int .i64 (xs.count a) ∧ τ = σ := by
  refine fn_pure ord0 mixed Tryz.func230 (by kernel_rfl) rfl (by kernel_rfl) (by rfl) ?_
  obtain ⟨hl, _⟩ := hl
  simp (config := {contextual := true, maxSteps := 1000000}) (disch := first | exact dA | fail) [go_sem, envOf, wrap_i64, int_lt, -Int.not_le, -Int.not_lt, Bool.decide_and, Bool.decide_or, and_assoc, Bool.and_assoc, Bool.or_assoc, Prod.exists, Prod.forall]
  refine aloops_lt (fun R_ env τ => ∃ (i n : Int), env 0 = v ∧ env 1 = .int .i64 a ∧ env 5 = .int .i64 n ∧ env 6 = .int .i64 i ∧ σ = τ ∧ R_ ((xs.length - i).toNat) ∧ (0 ≤ i ∧ i ≤ xs.length ∧ 0 ≤ n ∧ n ≤ i ∧ n = (xs.take i.toNat).count a)) (by rintro R_ env τ ⟨i, n, e0, e1, e5, e6, h_, hR_, hp⟩; exact ⟨_, hR_, i, n, e0, e1, e5, e6, h_, rfl, hp⟩) ⟨0, 0, by first | rfl | simp [put_get, *], by first | rfl | simp [put_get, *], by first | rfl | simp [put_get, *], by first | rfl | simp [put_get, *], rfl, trivial, ?_⟩ ?_
  rotate_left
  rintro m_ env τ ⟨i, n, e0, e1, e5, e6, rfl, rfl, hp⟩
  · simp (config := {contextual := true, maxSteps := 1000000}) (disch := first | exact dA | fail) [go_sem, envOf, wrap_i64, int_lt, -Int.not_le, -Int.not_lt, Bool.decide_and, Bool.decide_or, and_assoc, Bool.and_assoc, Bool.or_assoc, Prod.exists, Prod.forall, e0, e1, e5, e6]
    refine ⟨fun h => ?_, fun h => ?_⟩
    · rw [take_at hp.1 (by omega), List.count_append]
      refine ⟨fun h2 => ?_, fun h2 => ?_⟩ <;> simp [h2] <;> omega
    · rw [hp.2.2.2.2, List.take_of_length_le (by omega)]
  · simp
@[go_sem] theorem zIn_s (σ : AHeap) (v : AV) (xs : List Int) (a : Int) (hv : LsV .i64 σ v xs) (hl : Sm xs) (kk_ : AV → AHeap → Prop) : @callP Tryz.prog (.fn 230 [] []) [v, .int .i64 a] σ ⟨kk_⟩ = @Alt (kk_ (.int .i64 (xs.count a)) σ) ⟨@callP Tryz.prog (.fn 230 [] []) [v, .int .i64 a] σ ⟨kk_⟩⟩ := callP_alt (zIn_fn σ v xs a hv hl)
theorem zFree_fn (σ : AHeap) (b : Bk) (pv h0 h1 h2 h3 ov iv ev : AV) (page start : Int) (hb : BkV σ b pv h0 h1 h2 h3 ov iv ev) (hs : BkS b) (h : 0 ≤ page ∧ page * 8 + 8 ≤ b.owner.length ∧ 0 ≤ start ∧ start ≤ 8) : Fn Tryz.prog 185 [bV b pv h0 h1 h2 h3 ov iv ev, .int .i64 page, .int .i64 start] σ fun x τ => x = .bool (decide (freeP b page start)) ∧ τ = σ := by
  refine fn_pure ord0 mixed Tryz.func185 (by kernel_rfl) rfl (by kernel_rfl) (by rfl) ?_
  obtain ⟨_, _, _, _, _, ho, _, _⟩ := hb
  have hl := hs.o.1
  simp (config := {contextual := true, maxSteps := 1000000}) (disch := first | exact dA | fail) [go_sem, envOf, wrap_i64, int_lt, -Int.not_le, -Int.not_lt, Bool.decide_and, Bool.decide_or, and_assoc, Bool.and_assoc, Bool.or_assoc, Prod.exists, Prod.forall]
  refine aloops_lt (fun R_ env τ => ∃ (u : Int), env 1 = .int .i64 page ∧ env 7 = .int .i64 u ∧ env 3 = .ptr σ.n 0 ∧ σ.push ⟨[.int .i64 b.slots, pv, h0, h1, h2, h3, ov, iv, ev], true⟩ = τ ∧ R_ ((8 - u).toNat) ∧ (start ≤ u ∧ u ≤ 8 ∧ ∀ q : Int, start ≤ q → q < u → ¬ 0 < at_ b.owner (page * 8 + q))) (by rintro R_ env τ ⟨u, e1, e7, e3, h_, hR_, hp⟩; exact ⟨_, hR_, u, e1, e7, e3, h_, rfl, hp⟩) ⟨start, by first | rfl | simp [put_get, *], by first | rfl | simp [put_get, *], by first | rfl | simp [put_get, *], rfl, trivial, ?_⟩ ?_
  rotate_left
  rintro m_ env τ ⟨u, e1, e7, e3, rfl, rfl, hp⟩
  · simp (config := {contextual := true, maxSteps := 1000000}) (disch := first | exact dA | fail) [go_sem, envOf, wrap_i64, int_lt, -Int.not_le, -Int.not_lt, Bool.decide_and, Bool.decide_or, and_assoc, Bool.and_assoc, Bool.or_assoc, Prod.exists, Prod.forall, e1, e7, e3]
    refine ⟨fun h => ⟨fun h2 => ?_, fun h2 => ?_⟩, fun h => ?_⟩
    · intro hf
      exact hf u (by omega) (by omega) (by omega)
    · refine ⟨by omega, by omega, by omega, fun q q1 q2 => ?_⟩
      by_cases hq : q = u
      · subst hq; omega
      · have := hp.2.2 q q1 (by omega); omega
    · intro q q1 q2
      exact hp.2.2 q q1 (by omega)
  · refine ⟨by omega, by omega, fun q q1 q2 => by omega⟩
@[go_sem] theorem zFree_s (σ : AHeap) (b : Bk) (pv h0 h1 h2 h3 ov iv ev : AV) (page start : Int) (hb : BkV σ b pv h0 h1 h2 h3 ov iv ev) (hs : BkS b) (h : 0 ≤ page ∧ page * 8 + 8 ≤ b.owner.length ∧ 0 ≤ start ∧ start ≤ 8) (kk_ : AV → AHeap → Prop) : @callP Tryz.prog (.fn 185 [] []) [bV b pv h0 h1 h2 h3 ov iv ev, .int .i64 page, .int .i64 start] σ ⟨kk_⟩ = @Alt (kk_ (.bool (decide (freeP b page start))) σ) ⟨@callP Tryz.prog (.fn 185 [] []) [bV b pv h0 h1 h2 h3 ov iv ev, .int .i64 page, .int .i64 start] σ ⟨kk_⟩⟩ := callP_alt (zFree_fn σ b pv h0 h1 h2 h3 ov iv ev page start hb hs h)
@[go_sem] theorem zFree_g (σ : AHeap) (b_ : Bool) (b : Bk) (pv h0 h1 h2 h3 ov iv ev : AV) (page start : Int) (hb : b_ = true →  BkV σ b pv h0 h1 h2 h3 ov iv ev) (hs : b_ = true →  BkS b) (h : b_ = true →  0 ≤ page ∧ page * 8 + 8 ≤ b.owner.length ∧ 0 ≤ start ∧ start ≤ 8) (kk_ : AV → AHeap → Prop) : @gC Tryz.prog b_ (.fn 185 [] []) [bV b pv h0 h1 h2 h3 ov iv ev, .int .i64 page, .int .i64 start] σ ⟨kk_⟩ = @Alt (kk_ (gv b_ (.bool (decide (freeP b page start)))) σ) ⟨@gC Tryz.prog b_ (.fn 185 [] []) [bV b pv h0 h1 h2 h3 ov iv ev, .int .i64 page, .int .i64 start] σ ⟨kk_⟩⟩ := gC_alt b_ fun hb_ => zFree_fn σ b pv h0 h1 h2 h3 ov iv ev page start (hb hb_) (hs hb_) (h hb_)
abbrev bHp (σ : AHeap) (b : Bk) (pv h0 h1 h2 h3 ov iv ev : AV) : AHeap := σ.push ⟨[.int .i64 b.slots, pv, h0, h1, h2, h3, ov, iv, ev], true⟩
theorem zSlots_fn (σ : AHeap) (b : Bk) (pv h0 h1 h2 h3 ov iv ev : AV) (hb : BkV σ b pv h0 h1 h2 h3 ov iv ev) (hs : BkS b) : Fn Tryz.prog 136 [bV b pv h0 h1 h2 h3 ov iv ev] σ fun x τ => x = .bool (decide (slotsP b)) ∧ τ = σ := by
  refine fn_pure ord136 mixed Tryz.func136 (by kernel_rfl) rfl (by kernel_rfl) (by rfl) ?_
  obtain ⟨vp, _, _, _, _, vo, vi, ve⟩ := hb
  obtain ⟨⟨s0, s1⟩, ⟨sp, _⟩, _, ⟨so, so'⟩, ⟨si, _⟩, ⟨se, _⟩⟩ := hs
  simp (config := {contextual := true, maxSteps := 1000000}) (disch := first | exact dA | fail) [go_sem, envOf, wrap_i64, int_lt, -Int.not_le, -Int.not_lt, Bool.decide_and, Bool.decide_or, and_assoc, Bool.and_assoc, Bool.or_assoc, Prod.exists, Prod.forall, ord136]
  refine ⟨fun h hp => ?_, fun a1 a2 a3 a4 a5 a6 a7 => ?_⟩
  · obtain ⟨⟨a1, a2, a3, a4, a5, a6, a7⟩, _⟩ := hp
    rcases h with h | h | h | h | h | h | h <;> omega
  refine aloops_lt (fun R_ env τ => ∃ (i : Int), env 1 = .ptr σ.n 0 ∧ env 3 = .int .i64 i ∧ bHp σ b pv h0 h1 h2 h3 ov iv ev = τ ∧ R_ ((b.slots - i).toNat) ∧ (0 ≤ i ∧ i ≤ b.slots ∧ ∀ q : Int, 0 ≤ q → q < i → 0 ≤ at_ b.inn q ∧ at_ b.inn q ≤ 2 ∧ 0 ≤ at_ b.epoch q ∧ at_ b.epoch q ≤ 4095 ∧ ¬ (at_ b.epoch q = 0 ∧ 0 < at_ b.inn q))) (by rintro R_ env τ ⟨i, e1, e3, h_, hR_, hp⟩; exact ⟨_, hR_, i, e1, e3, h_, rfl, hp⟩) ⟨0, by first | rfl | simp [put_get, *], by first | rfl | simp [put_get, *], rfl, trivial, ?_⟩ ?_
  rotate_left
  rintro m_ env τ ⟨i, e1, e3, rfl, rfl, hp⟩
  rotate_left
  · refine ⟨by omega, by omega, fun q q1 q2 => by omega⟩
  simp (config := {contextual := true, maxSteps := 1000000}) (disch := first | exact dA | fail) [go_sem, envOf, wrap_i64, int_lt, -Int.not_le, -Int.not_lt, Bool.decide_and, Bool.decide_or, and_assoc, Bool.and_assoc, Bool.or_assoc, Prod.exists, Prod.forall, ord136, e1, e3]
  refine ⟨fun h => ⟨fun hx hp2 => ?_, fun b1 b2 b3 b4 hy => ⟨by omega, by omega, by omega, fun q q1 q2 => ?_⟩⟩, fun h => ?_⟩
  · have := hp2.2.1 i (by omega) (by omega)
    omega
  · by_cases hq : q = i
    · subst hq; exact ⟨b1, b2, b3, b4, fun hz => by have := hy hz; omega⟩
    · have := hp.2.2 q q1 (by omega)
      exact ⟨this.1, this.2.1, this.2.2.1, this.2.2.2.1, fun hz => by omega⟩
  have hall : ∀ q : Int, 0 ≤ q → q < b.slots → _ := fun q q1 q2 => hp.2.2 q q1 (by omega)
  clear hp
  refine aloops_lt (fun R_ env τ => ∃ (u : Int), env 1 = .ptr σ.n 0 ∧ env 4 = .int .i64 u ∧ bHp σ b pv h0 h1 h2 h3 ov iv ev = τ ∧ R_ ((b.owner.length - u).toNat) ∧ (0 ≤ u ∧ u ≤ b.owner.length ∧ ∀ q : Int, 0 ≤ q → q < u → 0 ≤ at_ b.owner q ∧ at_ b.owner q ≤ b.slots ∧ ¬ (0 < at_ b.owner q ∧ at_ b.inn (at_ b.owner q - 1) = 0))) (by rintro R_ env τ ⟨u, e1, e4, h_, hR_, hp⟩; exact ⟨_, hR_, u, e1, e4, h_, rfl, hp⟩) ⟨0, by first | rfl | simp [put_get, *], by first | rfl | simp [put_get, *], rfl, trivial, ?_⟩ ?_
  rotate_left
  rintro m_ env τ ⟨u, e1, e4, rfl, rfl, hp⟩
  rotate_left
  · refine ⟨by omega, by omega, fun q q1 q2 => by omega⟩
  simp (config := {contextual := true, maxSteps := 1000000}) (disch := first | exact dA | fail) [go_sem, envOf, wrap_i64, int_lt, -Int.not_le, -Int.not_lt, Bool.decide_and, Bool.decide_or, and_assoc, Bool.and_assoc, Bool.or_assoc, Prod.exists, Prod.forall, ord136, e1, e4]
  refine ⟨fun h => ⟨fun hx hp2 => ?_, fun b1 b2 hy => ⟨by omega, by omega, by omega, fun q q1 q2 => ?_⟩⟩, fun h => ?_⟩
  · have := hp2.2.2 u (by omega) (by omega)
    omega
  · by_cases hq : q = u
    · subst hq; exact ⟨b1, b2, hy⟩
    · have := hp.2.2 q q1 (by omega)
      exact ⟨this.1, this.2.1, fun hz => by omega⟩
  · exact ⟨⟨a1, a2, a3, a4, by omega, by omega, by omega⟩, hall, fun q q1 q2 => hp.2.2 q q1 (by omega)⟩
@[go_sem] theorem zSlots_s (σ : AHeap) (b : Bk) (pv h0 h1 h2 h3 ov iv ev : AV) (hb : BkV σ b pv h0 h1 h2 h3 ov iv ev) (hs : BkS b) (kk_ : AV → AHeap → Prop) : @callP Tryz.prog (.fn 136 [] []) [bV b pv h0 h1 h2 h3 ov iv ev] σ ⟨kk_⟩ = @Alt (kk_ (.bool (decide (slotsP b))) σ) ⟨@callP Tryz.prog (.fn 136 [] []) [bV b pv h0 h1 h2 h3 ov iv ev] σ ⟨kk_⟩⟩ := callP_alt (zSlots_fn σ b pv h0 h1 h2 h3 ov iv ev hb hs)
end AH
/- CONTRACTS OF THE REFERENCE: pages of rooms. Printed by wip/tools/sp3.py. -/
namespace AH
open Go Go.Proofs Ho
set_option maxRecDepth 10000
set_option maxHeartbeats 4000000
theorem sz0 : sz 0 = 1 := _root_.id rfl
theorem sz1 : sz 1 = 2 := _root_.id rfl
theorem sz2 : sz 2 = 4 := _root_.id rfl
theorem sz3 : sz 3 = 8 := _root_.id rfl
theorem rooms_no {b : Bk} {page k s u n : Int} (h : ¬ 8 ≤ u) (u0 : 0 ≤ u) (n0 : 0 ≤ n) (n1 : n ≤ u) (hr : ∀ q : Int, 0 ≤ q → q < u → roomP b page k q)
    (hn : 0 < n ↔ ∃ q : Int, 0 ≤ q ∧ q < u ∧ q % s = 0 ∧ 0 < at_ b.owner (page * 8 + q)) (hx : roomP b page k u) (hno : ¬ (u % s = 0 ∧ 0 < at_ b.owner (page * 8 + u))) :
    ¬8 - u ≤ max (8 - (u + 1)) 0 ∧ 0 ≤ u + 1 ∧ u + 1 ≤ 8 ∧ 0 ≤ n ∧ n ≤ u + 1 ∧ (∀ (q : Int), 0 ≤ q → ¬u + 1 ≤ q → roomP b page k q) ∧ (¬n ≤ 0 ↔ ∃ q, 0 ≤ q ∧ ¬u + 1 ≤ q ∧ q % s = 0 ∧ ¬at_ b.owner (page * 8 + q) ≤ 0) := by
  refine ⟨by omega, by omega, by omega, n0, by omega, fun q q1 q2 => ?_, ?_⟩
  · by_cases e : q = u
    · subst e; exact hx
    · exact hr q q1 (by omega)
  · rw [Int.not_le, hn]
    constructor
    · rintro ⟨q, q1, q2, q3, q4⟩; exact ⟨q, q1, by omega, q3, by omega⟩
    · rintro ⟨q, q1, q2, q3, q4⟩
      by_cases e : q = u
      · subst e; exact absurd ⟨q3, by omega⟩ hno
      · exact ⟨q, q1, by omega, q3, by omega⟩
theorem rooms_yes {b : Bk} {page k s u n : Int} (h : ¬ 8 ≤ u) (u0 : 0 ≤ u) (n0 : 0 ≤ n) (n1 : n ≤ u) (hr : ∀ q : Int, 0 ≤ q → q < u → roomP b page k q)
    (hx : roomP b page k u) (h1 : u % s = 0) (h2 : 0 < at_ b.owner (page * 8 + u)) :
    ¬8 - u ≤ max (8 - (u + 1)) 0 ∧ 0 ≤ u + 1 ∧ u + 1 ≤ 8 ∧ 0 ≤ n + 1 ∧ n ≤ u ∧ (∀ (q : Int), 0 ≤ q → ¬u + 1 ≤ q → roomP b page k q) ∧ (¬n + 1 ≤ 0 ↔ ∃ q, 0 ≤ q ∧ ¬u + 1 ≤ q ∧ q % s = 0 ∧ ¬at_ b.owner (page * 8 + q) ≤ 0) := by
  refine ⟨by omega, by omega, by omega, by omega, by omega, fun q q1 q2 => ?_, ⟨fun _ => ⟨u, u0, by omega, h1, by omega⟩, fun _ => by omega⟩⟩
  by_cases e : q = u
  · subst e; exact hx
  · exact hr q q1 (by omega)
theorem rooms_end {b : Bk} {page k u n : Int} (h : 8 ≤ u) (u1 : u ≤ 8) (n0 : 0 ≤ n) (hr : ∀ q : Int, 0 ≤ q → q < u → roomP b page k q)
    (hn : 0 < n ↔ ∃ q : Int, 0 ≤ q ∧ q < u ∧ q % sz k = 0 ∧ 0 < at_ b.owner (page * 8 + q)) : (decide (n ≤ 0) = !decide (roomsP b page k)) := by
  have e : u = 8 := by omega
  subst e
  have : roomsP b page k ↔ ¬ n ≤ 0 := by
    rw [Int.not_le, hn]
    exact ⟨fun h => h.2, fun h => ⟨hr, h⟩⟩
  by_cases hn0 : n ≤ 0 <;> simp [hn0, this]
theorem room_odd {b : Bk} {page k u : Int} {kn : Nat} (e : k.toNat = kn) (h : ¬ u % sz k ≤ 0) : roomP b page k u ↔ (at_ b.owner (page * 8 + u) ≤ 0 ∧ ¬ page * 8 + u ∈ b.heads kn) := by
  unfold roomP; rw [e, if_pos (by omega), List.count_pos_iff]
  constructor
  · intro h; exact ⟨by omega, fun hm => h (.inr hm)⟩
  · rintro ⟨h1, h2⟩ (h | h)
    · omega
    · exact h2 h
theorem room_even {b : Bk} {page k u : Int} {kn : Nat} (e : k.toNat = kn) (h : u % sz k ≤ 0) : roomP b page k u ↔ ((at_ b.owner (page * 8 + u) ≤ 0 ↔ page * 8 + u ∈ b.heads kn) ∧ ((b.heads kn).count (page * 8 + u) : Int) ≤ 1) := by
  unfold roomP; rw [e, if_neg (by omega), List.count_pos_iff]
  constructor
  · intro h
    have h1 : ¬ (0 < at_ b.owner (page * 8 + u) ↔ page * 8 + u ∈ b.heads kn) := fun hh => h (.inl hh)
    have h2 : ¬ 1 < List.count (page * 8 + u) (b.heads kn) := fun hh => h (.inr hh)
    refine ⟨?_, by omega⟩
    by_cases h3 : page * 8 + u ∈ b.heads kn <;> simp only [h3, iff_true, iff_false] at h1 ⊢ <;> omega
  · rintro ⟨h1, h2⟩ (h | h)
    · rw [← h] at h1; omega
    · omega
theorem zRooms0_fn (σ : AHeap) (b : Bk) (pv h0 h1 h2 h3 ov iv ev : AV) (page : Int) (hb : BkV σ b pv h0 h1 h2 h3 ov iv ev) (hs : BkS b) (h : 0 ≤ page ∧ page * 8 + 8 ≤ b.owner.length) : Fn Tryz.prog 186 [bV b pv h0 h1 h2 h3 ov iv ev, .int .i64 page, .int .i64 0] σ fun x τ => x = .bool (decide (roomsP b page 0)) ∧ τ = σ := by
  refine fn_pure ord0 mixed Tryz.func186 (by kernel_rfl) rfl (by kernel_rfl) (by rfl) ?_
  obtain ⟨_, _, _, _, _, vo, _, _⟩ := hb
  obtain ⟨_, _, sh, ⟨so, _⟩, _, _⟩ := hs
  have sh' := sh 0
  simp (config := {contextual := true, maxSteps := 1000000}) (disch := first | exact dA | fail) [go_sem, envOf, wrap_i64, int_lt, -Int.not_le, -Int.not_lt, Bool.decide_and, Bool.decide_or, and_assoc, Bool.and_assoc, Bool.or_assoc, Prod.exists, Prod.forall]
  refine aloops_lt (fun R_ env τ => ∃ (u n : Int), env 1 = .int .i64 page ∧ env 2 = .int .i64 0 ∧ env 3 = .ptr σ.n 0 ∧ env 7 = .int .i64 n ∧ env 8 = .int .i64 u ∧ bHp σ b pv h0 h1 h2 h3 ov iv ev = τ ∧ R_ ((8 - u).toNat) ∧ (0 ≤ u ∧ u ≤ 8 ∧ 0 ≤ n ∧ n ≤ u ∧ (∀ q : Int, 0 ≤ q → q < u → roomP b page 0 q) ∧ (0 < n ↔ ∃ q : Int, 0 ≤ q ∧ q < u ∧ q % sz 0 = 0 ∧ 0 < at_ b.owner (page * 8 + q)))) (by rintro R_ env τ ⟨u, n, e1, e2, e3, e7, e8, h_, hR_, hp⟩; exact ⟨_, hR_, u, n, e1, e2, e3, e7, e8, h_, rfl, hp⟩) ⟨0, 0, by first | rfl | simp [put_get, *], by first | rfl | simp [put_get, *], by first | rfl | simp [put_get, *], by first | rfl | simp [put_get, *], by first | rfl | simp [put_get, *], rfl, trivial, ?_⟩ ?_
  rotate_left
  rintro m_ env τ ⟨u, n, e1, e2, e3, e7, e8, rfl, rfl, hp⟩
  rotate_left
  · refine ⟨by omega, by omega, by omega, by omega, fun q q1 q2 => by omega, ⟨fun h => by omega, fun ⟨q, q1, q2, _⟩ => by omega⟩⟩
  obtain ⟨u0, u1, n0, n1, hr, hn⟩ := hp
  have ro := @room_odd b page 0 u 0 rfl
  have re := @room_even b page 0 u 0 rfl
  rw [sz0] at ro re
  simp (config := {contextual := true, maxSteps := 1000000}) (disch := first | exact dA | fail) [go_sem, envOf, wrap_i64, int_lt, -Int.not_le, -Int.not_lt, Bool.decide_and, Bool.decide_or, and_assoc, Bool.and_assoc, Bool.or_assoc, Prod.exists, Prod.forall, e1, e2, e3, e7, e8, sz0, Int.tmod_eq_emod_of_nonneg]
  rw [sz0] at hn
  have h2 : u % 1 ≤ 0 := by omega
  refine ⟨fun h => ?_, fun h => rooms_end h u1 n0 hr (by rw [sz0]; exact hn)⟩
  refine Alt.mk (Alt.mk ⟨fun h3 hrm => ?_, fun h3 h4 => ⟨fun h5 => ?_, fun h5 => ?_⟩⟩)
  · have := (re h2).1 (hrm.1 u u0 (by omega))
    rcases h3 with h3 | h3
    · by_cases hm : page * 8 + u ∈ b.heads 0 <;> simp [hm] at h3 this <;> omega
    · exact h3 this.2
  · simpa using rooms_yes (s := 1) h u0 n0 n1 hr ((re h2).2 ⟨h3, h4⟩) (by omega) (by have := mt h3.1 h5; omega)
  · simpa using rooms_no (s := 1) h u0 n0 n1 hr hn ((re h2).2 ⟨h3, h4⟩) (fun hh => by have := h3.2 h5; omega)
theorem zRooms1_fn (σ : AHeap) (b : Bk) (pv h0 h1 h2 h3 ov iv ev : AV) (page : Int) (hb : BkV σ b pv h0 h1 h2 h3 ov iv ev) (hs : BkS b) (h : 0 ≤ page ∧ page * 8 + 8 ≤ b.owner.length) : Fn Tryz.prog 186 [bV b pv h0 h1 h2 h3 ov iv ev, .int .i64 page, .int .i64 1] σ fun x τ => x = .bool (decide (roomsP b page 1)) ∧ τ = σ := by
  refine fn_pure ord0 mixed Tryz.func186 (by kernel_rfl) rfl (by kernel_rfl) (by rfl) ?_
  obtain ⟨_, _, _, _, _, vo, _, _⟩ := hb
  obtain ⟨_, _, sh, ⟨so, _⟩, _, _⟩ := hs
  have sh' := sh 1
  simp (config := {contextual := true, maxSteps := 1000000}) (disch := first | exact dA | fail) [go_sem, envOf, wrap_i64, int_lt, -Int.not_le, -Int.not_lt, Bool.decide_and, Bool.decide_or, and_assoc, Bool.and_assoc, Bool.or_assoc, Prod.exists, Prod.forall]
  refine aloops_lt (fun R_ env τ => ∃ (u n : Int), env 1 = .int .i64 page ∧ env 2 = .int .i64 1 ∧ env 3 = .ptr σ.n 0 ∧ env 7 = .int .i64 n ∧ env 8 = .int .i64 u ∧ bHp σ b pv h0 h1 h2 h3 ov iv ev = τ ∧ R_ ((8 - u).toNat) ∧ (0 ≤ u ∧ u ≤ 8 ∧ 0 ≤ n ∧ n ≤ u ∧ (∀ q : Int, 0 ≤ q → q < u → roomP b page 1 q) ∧ (0 < n ↔ ∃ q : Int, 0 ≤ q ∧ q < u ∧ q % sz 1 = 0 ∧ 0 < at_ b.owner (page * 8 + q)))) (by rintro R_ env τ ⟨u, n, e1, e2, e3, e7, e8, h_, hR_, hp⟩; exact ⟨_, hR_, u, n, e1, e2, e3, e7, e8, h_, rfl, hp⟩) ⟨0, 0, by first | rfl | simp [put_get, *], by first | rfl | simp [put_get, *], by first | rfl | simp [put_get, *], by first | rfl | simp [put_get, *], by first | rfl | simp [put_get, *], rfl, trivial, ?_⟩ ?_
  rotate_left
  rintro m_ env τ ⟨u, n, e1, e2, e3, e7, e8, rfl, rfl, hp⟩
  rotate_left
  · refine ⟨by omega, by omega, by omega, by omega, fun q q1 q2 => by omega, ⟨fun h => by omega, fun ⟨q, q1, q2, _⟩ => by omega⟩⟩
  obtain ⟨u0, u1, n0, n1, hr, hn⟩ := hp
  have ro := @room_odd b page 1 u 1 rfl
  have re := @room_even b page 1 u 1 rfl
  rw [sz1] at ro re
  simp (config := {contextual := true, maxSteps := 1000000}) (disch := first | exact dA | fail) [go_sem, envOf, wrap_i64, int_lt, -Int.not_le, -Int.not_lt, Bool.decide_and, Bool.decide_or, and_assoc, Bool.and_assoc, Bool.or_assoc, Prod.exists, Prod.forall, e1, e2, e3, e7, e8, sz1, Int.tmod_eq_emod_of_nonneg]
  rw [sz1] at hn
  refine ⟨fun h => ?_, fun h => rooms_end h u1 n0 hr (by rw [sz1]; exact hn)⟩
  refine Alt.mk (Alt.mk ⟨fun h2 => ⟨fun h3 hrm => ?_, fun h3 h4 => ?_⟩, fun h2 => ⟨fun h3 hrm => ?_, fun h3 h4 => ⟨fun h5 => ?_, fun h5 => ?_⟩⟩⟩)
  · have := (ro h2).1 (hrm.1 u u0 (by omega))
    rcases h3 with h3 | h3
    · exact h3 this.1
    · exact this.2 h3
  · exact rooms_no h u0 n0 n1 hr hn ((ro h2).2 ⟨h3, h4⟩) (fun hh => by omega)
  · have := (re h2).1 (hrm.1 u u0 (by omega))
    rcases h3 with h3 | h3
    · by_cases hm : page * 8 + u ∈ b.heads 1 <;> simp [hm] at h3 this <;> omega
    · exact h3 this.2
  · exact rooms_yes h u0 n0 n1 hr ((re h2).2 ⟨h3, h4⟩) (by omega) (by have := mt h3.1 h5; omega)
  · exact rooms_no h u0 n0 n1 hr hn ((re h2).2 ⟨h3, h4⟩) (fun hh => by have := h3.2 h5; omega)
theorem zRooms2_fn (σ : AHeap) (b : Bk) (pv h0 h1 h2 h3 ov iv ev : AV) (page : Int) (hb : BkV σ b pv h0 h1 h2 h3 ov iv ev) (hs : BkS b) (h : 0 ≤ page ∧ page * 8 + 8 ≤ b.owner.length) : Fn Tryz.prog 186 [bV b pv h0 h1 h2 h3 ov iv ev, .int .i64 page, .int .i64 2] σ fun x τ => x = .bool (decide (roomsP b page 2)) ∧ τ = σ := by
  refine fn_pure ord0 mixed Tryz.func186 (by kernel_rfl) rfl (by kernel_rfl) (by rfl) ?_
  obtain ⟨_, _, _, _, _, vo, _, _⟩ := hb
  obtain ⟨_, _, sh, ⟨so, _⟩, _, _⟩ := hs
  have sh' := sh 2
  simp (config := {contextual := true, maxSteps := 1000000}) (disch := first | exact dA | fail) [go_sem, envOf, wrap_i64, int_lt, -Int.not_le, -Int.not_lt, Bool.decide_and, Bool.decide_or, and_assoc, Bool.and_assoc, Bool.or_assoc, Prod.exists, Prod.forall]
  refine aloops_lt (fun R_ env τ => ∃ (u n : Int), env 1 = .int .i64 page ∧ env 2 = .int .i64 2 ∧ env 3 = .ptr σ.n 0 ∧ env 7 = .int .i64 n ∧ env 8 = .int .i64 u ∧ bHp σ b pv h0 h1 h2 h3 ov iv ev = τ ∧ R_ ((8 - u).toNat) ∧ (0 ≤ u ∧ u ≤ 8 ∧ 0 ≤ n ∧ n ≤ u ∧ (∀ q : Int, 0 ≤ q → q < u → roomP b page 2 q) ∧ (0 < n ↔ ∃ q : Int, 0 ≤ q ∧ q < u ∧ q % sz 2 = 0 ∧ 0 < at_ b.owner (page * 8 + q)))) (by rintro R_ env τ ⟨u, n, e1, e2, e3, e7, e8, h_, hR_, hp⟩; exact ⟨_, hR_, u, n, e1, e2, e3, e7, e8, h_, rfl, hp⟩) ⟨0, 0, by first | rfl | simp [put_get, *], by first | rfl | simp [put_get, *], by first | rfl | simp [put_get, *], by first | rfl | simp [put_get, *], by first | rfl | simp [put_get, *], rfl, trivial, ?_⟩ ?_
  rotate_left
  rintro m_ env τ ⟨u, n, e1, e2, e3, e7, e8, rfl, rfl, hp⟩
  rotate_left
  · refine ⟨by omega, by omega, by omega, by omega, fun q q1 q2 => by omega, ⟨fun h => by omega, fun ⟨q, q1, q2, _⟩ => by omega⟩⟩
  obtain ⟨u0, u1, n0, n1, hr, hn⟩ := hp
  have ro := @room_odd b page 2 u 2 rfl
  have re := @room_even b page 2 u 2 rfl
  rw [sz2] at ro re
  simp (config := {contextual := true, maxSteps := 1000000}) (disch := first | exact dA | fail) [go_sem, envOf, wrap_i64, int_lt, -Int.not_le, -Int.not_lt, Bool.decide_and, Bool.decide_or, and_assoc, Bool.and_assoc, Bool.or_assoc, Prod.exists, Prod.forall, e1, e2, e3, e7, e8, sz2, Int.tmod_eq_emod_of_nonneg]
  rw [sz2] at hn
  refine ⟨fun h => ?_, fun h => rooms_end h u1 n0 hr (by rw [sz2]; exact hn)⟩
  refine Alt.mk (Alt.mk ⟨fun h2 => ⟨fun h3 hrm => ?_, fun h3 h4 => ?_⟩, fun h2 => ⟨fun h3 hrm => ?_, fun h3 h4 => ⟨fun h5 => ?_, fun h5 => ?_⟩⟩⟩)
  · have := (ro h2).1 (hrm.1 u u0 (by omega))
    rcases h3 with h3 | h3
    · exact h3 this.1
    · exact this.2 h3
  · exact rooms_no h u0 n0 n1 hr hn ((ro h2).2 ⟨h3, h4⟩) (fun hh => by omega)
  · have := (re h2).1 (hrm.1 u u0 (by omega))
    rcases h3 with h3 | h3
    · by_cases hm : page * 8 + u ∈ b.heads 2 <;> simp [hm] at h3 this <;> omega
    · exact h3 this.2
  · exact rooms_yes h u0 n0 n1 hr ((re h2).2 ⟨h3, h4⟩) (by omega) (by have := mt h3.1 h5; omega)
  · exact rooms_no h u0 n0 n1 hr hn ((re h2).2 ⟨h3, h4⟩) (fun hh => by have := h3.2 h5; omega)
theorem zRooms3_fn (σ : AHeap) (b : Bk) (pv h0 h1 h2 h3 ov iv ev : AV) (page : Int) (hb : BkV σ b pv h0 h1 h2 h3 ov iv ev) (hs : BkS b) (h : 0 ≤ page ∧ page * 8 + 8 ≤ b.owner.length) : Fn Tryz.prog 186 [bV b pv h0 h1 h2 h3 ov iv ev, .int .i64 page, .int .i64 3] σ fun x τ => x = .bool (decide (roomsP b page 3)) ∧ τ = σ := by
  refine fn_pure ord0 mixed Tryz.func186 (by kernel_rfl) rfl (by kernel_rfl) (by rfl) ?_
  obtain ⟨_, _, _, _, _, vo, _, _⟩ := hb
  obtain ⟨_, _, sh, ⟨so, _⟩, _, _⟩ := hs
  have sh' := sh 3
  simp (config := {contextual := true, maxSteps := 1000000}) (disch := first | exact dA | fail) [go_sem, envOf, wrap_i64, int_lt, -Int.not_le, -Int.not_lt, Bool.decide_and, Bool.decide_or, and_assoc, Bool.and_assoc, Bool.or_assoc, Prod.exists, Prod.forall]
  refine aloops_lt (fun R_ env τ => ∃ (u n : Int), env 1 = .int .i64 page ∧ env 2 = .int .i64 3 ∧ env 3 = .ptr σ.n 0 ∧ env 7 = .int .i64 n ∧ env 8 = .int .i64 u ∧ bHp σ b pv h0 h1 h2 h3 ov iv ev = τ ∧ R_ ((8 - u).toNat) ∧ (0 ≤ u ∧ u ≤ 8 ∧ 0 ≤ n ∧ n ≤ u ∧ (∀ q : Int, 0 ≤ q → q < u → roomP b page 3 q) ∧ (0 < n ↔ ∃ q : Int, 0 ≤ q ∧ q < u ∧ q % sz 3 = 0 ∧ 0 < at_ b.owner (page * 8 + q)))) (by rintro R_ env τ ⟨u, n, e1, e2, e3, e7, e8, h_, hR_, hp⟩; exact ⟨_, hR_, u, n, e1, e2, e3, e7, e8, h_, rfl, hp⟩) ⟨0, 0, by first | rfl | simp [put_get, *], by first | rfl | simp [put_get, *], by first | rfl | simp [put_get, *], by first | rfl | simp [put_get, *], by first | rfl | simp [put_get, *], rfl, trivial, ?_⟩ ?_
  rotate_left
  rintro m_ env τ ⟨u, n, e1, e2, e3, e7, e8, rfl, rfl, hp⟩
  rotate_left
  · refine ⟨by omega, by omega, by omega, by omega, fun q q1 q2 => by omega, ⟨fun h => by omega, fun ⟨q, q1, q2, _⟩ => by omega⟩⟩
  obtain ⟨u0, u1, n0, n1, hr, hn⟩ := hp
  have ro := @room_odd b page 3 u 3 rfl
  have re := @room_even b page 3 u 3 rfl
  rw [sz3] at ro re
  simp (config := {contextual := true, maxSteps := 1000000}) (disch := first | exact dA | fail) [go_sem, envOf, wrap_i64, int_lt, -Int.not_le, -Int.not_lt, Bool.decide_and, Bool.decide_or, and_assoc, Bool.and_assoc, Bool.or_assoc, Prod.exists, Prod.forall, e1, e2, e3, e7, e8, sz3, Int.tmod_eq_emod_of_nonneg]
  rw [sz3] at hn
  refine ⟨fun h => ?_, fun h => rooms_end h u1 n0 hr (by rw [sz3]; exact hn)⟩
  refine Alt.mk (Alt.mk ⟨fun h2 => ⟨fun h3 hrm => ?_, fun h3 h4 => ?_⟩, fun h2 => ⟨fun h3 hrm => ?_, fun h3 h4 => ⟨fun h5 => ?_, fun h5 => ?_⟩⟩⟩)
  · have := (ro h2).1 (hrm.1 u u0 (by omega))
    rcases h3 with h3 | h3
    · exact h3 this.1
    · exact this.2 h3
  · exact rooms_no h u0 n0 n1 hr hn ((ro h2).2 ⟨h3, h4⟩) (fun hh => by omega)
  · have := (re h2).1 (hrm.1 u u0 (by omega))
    rcases h3 with h3 | h3
    · by_cases hm : page * 8 + u ∈ b.heads 3 <;> simp [hm] at h3 this <;> omega
    · exact h3 this.2
  · exact rooms_yes h u0 n0 n1 hr ((re h2).2 ⟨h3, h4⟩) (by omega) (by have := mt h3.1 h5; omega)
  · exact rooms_no h u0 n0 n1 hr hn ((re h2).2 ⟨h3, h4⟩) (fun hh => by have := h3.2 h5; omega)
end AH
/- CONTRACTS OF THE REFERENCE: pages, lists, a whole book. -/
namespace AH
open Go Go.Proofs Ho
set_option maxRecDepth 10000
set_option maxHeartbeats 4000000
theorem zWide_fn (σ : AHeap) (b : Bk) (pv h0 h1 h2 h3 ov iv ev : AV) (page : Int) (hb : BkV σ b pv h0 h1 h2 h3 ov iv ev) (hs : BkS b) (h : 0 ≤ page ∧ page < b.pages.length ∧ b.owner.length = b.pages.length * 8) : Fn Tryz.prog 188 [bV b pv h0 h1 h2 h3 ov iv ev, .int .i64 page] σ fun x τ => x = .bool (decide (wideP b page)) ∧ τ = σ := by
  refine fn_pure ord0 mixed Tryz.func188 (by kernel_rfl) rfl (by kernel_rfl) (by rfl) ?_
  have hb' := hb
  have hs' := hs
  obtain ⟨vp, _, _, _, _, vo, _, _⟩ := hb
  obtain ⟨_, ⟨sp, sp'⟩, _, ⟨so, _⟩, _, _⟩ := hs
  have hpg := sp' page
  simp (config := {contextual := true, maxSteps := 1000000}) (disch := first | exact dA | fail) [go_sem, envOf, wrap_i64, int_lt, -Int.not_le, -Int.not_lt, Bool.decide_and, Bool.decide_or, and_assoc, Bool.and_assoc, Bool.or_assoc, Prod.exists, Prod.forall]
  refine Alt.mk ⟨fun h hw => ?_, fun a1 a2 a3 a4 a5 => ?_⟩
  · obtain ⟨⟨b1, b2, b3, b4, b5⟩, _⟩ := hw
    rcases h with h | h | h | h | h <;> first | omega | exact h b5
  refine aloops_lt (fun R_ env τ => ∃ (i : Int), env 1 = .int .i64 page ∧ env 2 = .ptr σ.n 0 ∧ env 5 = .int .i64 (at_ b.pages page - 8) ∧ env 6 = .int .i64 i ∧ bHp σ b pv h0 h1 h2 h3 ov iv ev = τ ∧ R_ ((5 - i).toNat) ∧ (1 ≤ i ∧ i ≤ at_ b.pages page - 8 ∧ ∀ q : Int, 1 ≤ q → q < i → at_ b.pages (page + q) = 7)) (by rintro R_ env τ ⟨i, e1, e2, e5, e6, h_, hR_, hp⟩; exact ⟨_, hR_, i, e1, e2, e5, e6, h_, rfl, hp⟩) ⟨1, by first | rfl | simp [put_get, *], by first | rfl | simp [put_get, *], by first | rfl | simp [put_get, *], by first | rfl | simp [put_get, *], rfl, trivial, ?_⟩ ?_
  rotate_left
  rintro m_ env τ ⟨i, e1, e2, e5, e6, rfl, rfl, hp⟩
  rotate_left
  · refine ⟨by omega, by omega, fun q q1 q2 => by omega⟩
  simp (config := {contextual := true, maxSteps := 1000000}) (disch := first | exact dA | fail) [go_sem, envOf, wrap_i64, int_lt, -Int.not_le, -Int.not_lt, Bool.decide_and, Bool.decide_or, and_assoc, Bool.and_assoc, Bool.or_assoc, Prod.exists, Prod.forall, e1, e2, e5, e6]
  refine ⟨fun h => ⟨fun h2 hw => ?_, fun h2 => ⟨by omega, by omega, by omega, fun q q1 q2 => ?_⟩⟩, fun h => ⟨⟨a1, a2, a3, a4, a5⟩, fun q q1 q2 => hp.2.2 q q1 (by omega)⟩⟩
  · exact h2 (hw.2 i (by omega) (by omega))
  · by_cases e : q = i
    · subst e; exact h2
    · exact hp.2.2 q q1 (by omega)
@[go_sem] theorem zWide_s (σ : AHeap) (b : Bk) (pv h0 h1 h2 h3 ov iv ev : AV) (page : Int) (hb : BkV σ b pv h0 h1 h2 h3 ov iv ev) (hs : BkS b) (h : 0 ≤ page ∧ page < b.pages.length ∧ b.owner.length = b.pages.length * 8) (kk_ : AV → AHeap → Prop) : @callP Tryz.prog (.fn 188 [] []) [bV b pv h0 h1 h2 h3 ov iv ev, .int .i64 page] σ ⟨kk_⟩ = @Alt (kk_ (.bool (decide (wideP b page))) σ) ⟨@callP Tryz.prog (.fn 188 [] []) [bV b pv h0 h1 h2 h3 ov iv ev, .int .i64 page] σ ⟨kk_⟩⟩ := callP_alt (zWide_fn σ b pv h0 h1 h2 h3 ov iv ev page hb hs h)
theorem back_le (pages : List Int) : ∀ p : Nat, back pages p ≤ p := by
  intro p
  induction p with
  | zero => exact Nat.le_refl 0
  | succ p ih => unfold back; split <;> omega
theorem zRest_fn (σ : AHeap) (b : Bk) (pv h0 h1 h2 h3 ov iv ev : AV) (page : Int) (hb : BkV σ b pv h0 h1 h2 h3 ov iv ev) (hs : BkS b) (h : 0 ≤ page ∧ page < b.pages.length ∧ b.owner.length = b.pages.length * 8) : Fn Tryz.prog 187 [bV b pv h0 h1 h2 h3 ov iv ev, .int .i64 page] σ fun x τ => x = .bool (decide (restP b page)) ∧ τ = σ := by
  refine fn_pure ord0 mixed Tryz.func187 (by kernel_rfl) rfl (by kernel_rfl) (by rfl) ?_
  have hb' := hb
  have hs' := hs
  obtain ⟨vp, _, _, _, _, vo, _, _⟩ := hb
  obtain ⟨_, ⟨sp, sp'⟩, _, ⟨so, _⟩, _, _⟩ := hs
  have hpg := sp' page
  simp (config := {contextual := true, maxSteps := 1000000}) (disch := first | exact dA | fail) [go_sem, envOf, wrap_i64, int_lt, -Int.not_le, -Int.not_lt, Bool.decide_and, Bool.decide_or, and_assoc, Bool.and_assoc, Bool.or_assoc, Prod.exists, Prod.forall]
  refine aloops_lt (fun R_ env τ => ∃ (p : Int), env 1 = .int .i64 page ∧ env 2 = .ptr σ.n 0 ∧ env 5 = .int .i64 p ∧ bHp σ b pv h0 h1 h2 h3 ov iv ev = τ ∧ R_ (p.toNat) ∧ (0 ≤ p ∧ p ≤ page ∧ back b.pages p.toNat = back b.pages page.toNat)) (by rintro R_ env τ ⟨p, e1, e2, e5, h_, hR_, hp⟩; exact ⟨_, hR_, p, e1, e2, e5, h_, rfl, hp⟩) ⟨page, by first | rfl | simp [put_get, *], by first | rfl | simp [put_get, *], by first | rfl | simp [put_get, *], rfl, trivial, ?_⟩ ?_
  rotate_left
  rintro m_ env τ ⟨p, e1, e2, e5, rfl, rfl, hp⟩
  rotate_left
  · refine ⟨by omega, by omega, rfl⟩
  have hpp := sp' p
  simp (config := {contextual := true, maxSteps := 1000000}) (disch := first | exact dA | fail) [go_sem, envOf, wrap_i64, int_lt, -Int.not_le, -Int.not_lt, Bool.decide_and, Bool.decide_or, and_assoc, Bool.and_assoc, Bool.or_assoc, Prod.exists, Prod.forall, e1, e2, e5]
  refine ⟨fun h2 h3 => ⟨by omega, by omega, by omega, ?_⟩, fun h2 => Alt.mk ?_⟩
  · rw [← hp.2.2]
    obtain ⟨k, hk⟩ : ∃ k : Nat, p = (k + 1 : Nat) := ⟨p.toNat - 1, by omega⟩
    subst hk
    simp only [Int.toNat_natCast, Nat.add_sub_cancel]
    conv => rhs; unfold back
    rw [if_pos h3]
  · have hb3 : (back b.pages page.toNat : Int) = p := by
      rw [← hp.2.2]
      by_cases h0 : p ≤ 0
      · have : p = 0 := by omega
        subst this; rfl
      · obtain ⟨k, hk⟩ : ∃ k : Nat, p = (k + 1 : Nat) := ⟨p.toNat - 1, by omega⟩
        subst hk
        simp only [Int.toNat_natCast]
        unfold back
        rw [if_neg (h2 (by omega))]
    have hre : restP b page ↔ (8 < at_ b.pages p ∧ page < p + at_ b.pages p - 8 ∧ freeP b page 0) := by unfold restP; rw [hb3]
    by_cases c1 : at_ b.pages p ≤ 8
    · simp [c1, hre, show ¬ 8 < at_ b.pages p by omega]
    · by_cases c2 : p + at_ b.pages p - 8 ≤ page
      · simp [c1, c2, hre, show ¬ page < p + at_ b.pages p - 8 by omega]
      · simp [c1, c2, hre, show 8 < at_ b.pages p by omega, show page < p + at_ b.pages p - 8 by omega]
@[go_sem] theorem zRest_s (σ : AHeap) (b : Bk) (pv h0 h1 h2 h3 ov iv ev : AV) (page : Int) (hb : BkV σ b pv h0 h1 h2 h3 ov iv ev) (hs : BkS b) (h : 0 ≤ page ∧ page < b.pages.length ∧ b.owner.length = b.pages.length * 8) (kk_ : AV → AHeap → Prop) : @callP Tryz.prog (.fn 187 [] []) [bV b pv h0 h1 h2 h3 ov iv ev, .int .i64 page] σ ⟨kk_⟩ = @Alt (kk_ (.bool (decide (restP b page))) σ) ⟨@callP Tryz.prog (.fn 187 [] []) [bV b pv h0 h1 h2 h3 ov iv ev, .int .i64 page] σ ⟨kk_⟩⟩ := callP_alt (zRest_fn σ b pv h0 h1 h2 h3 ov iv ev page hb hs h)
theorem zRooms_fn (σ : AHeap) (b : Bk) (pv h0 h1 h2 h3 ov iv ev : AV) (page kind : Int) (hb : BkV σ b pv h0 h1 h2 h3 ov iv ev) (hs : BkS b) (h : 0 ≤ page ∧ page * 8 + 8 ≤ b.owner.length) (hk : 0 ≤ kind ∧ kind < 4) : Fn Tryz.prog 186 [bV b pv h0 h1 h2 h3 ov iv ev, .int .i64 page, .int .i64 kind] σ fun x τ => x = .bool (decide (roomsP b page kind)) ∧ τ = σ := by
  have : kind = 0 ∨ kind = 1 ∨ kind = 2 ∨ kind = 3 := by omega
  rcases this with rfl | rfl | rfl | rfl
  · exact zRooms0_fn σ b pv h0 h1 h2 h3 ov iv ev page hb hs h
  · exact zRooms1_fn σ b pv h0 h1 h2 h3 ov iv ev page hb hs h
  · exact zRooms2_fn σ b pv h0 h1 h2 h3 ov iv ev page hb hs h
  · exact zRooms3_fn σ b pv h0 h1 h2 h3 ov iv ev page hb hs h
@[go_sem] theorem zRooms_s (σ : AHeap) (b : Bk) (pv h0 h1 h2 h3 ov iv ev : AV) (page kind : Int) (hb : BkV σ b pv h0 h1 h2 h3 ov iv ev) (hs : BkS b) (h : 0 ≤ page ∧ page * 8 + 8 ≤ b.owner.length) (hk : 0 ≤ kind ∧ kind < 4) (kk_ : AV → AHeap → Prop) : @callP Tryz.prog (.fn 186 [] []) [bV b pv h0 h1 h2 h3 ov iv ev, .int .i64 page, .int .i64 kind] σ ⟨kk_⟩ = @Alt (kk_ (.bool (decide (roomsP b page kind))) σ) ⟨@callP Tryz.prog (.fn 186 [] []) [bV b pv h0 h1 h2 h3 ov iv ev, .int .i64 page, .int .i64 kind] σ ⟨kk_⟩⟩ := callP_alt (zRooms_fn σ b pv h0 h1 h2 h3 ov iv ev page kind hb hs h hk)
theorem kind_lt (s : Int) : kindOf s < 4 := by unfold kindOf; split <;> omega
theorem kind_rng (s : Int) : -1000000000000 ≤ kindOf s ∧ kindOf s ≤ 1000000000000 := by unfold kindOf; split <;> omega
theorem zPage_fn (σ : AHeap) (b : Bk) (pv h0 h1 h2 h3 ov iv ev : AV) (page : Int) (hb : BkV σ b pv h0 h1 h2 h3 ov iv ev) (hs : BkS b) (h : 0 ≤ page ∧ page < b.pages.length ∧ b.owner.length = b.pages.length * 8) : Fn Tryz.prog 138 [bV b pv h0 h1 h2 h3 ov iv ev, .int .i64 page] σ fun x τ => x = .bool (decide (pageP b page)) ∧ τ = σ := by
  refine fn_pure ord138 mixed Tryz.func138 (by kernel_rfl) rfl (by kernel_rfl) (by rfl) ?_
  have hb' := hb
  have hs' := hs
  obtain ⟨vp, _, _, _, _, vo, _, _⟩ := hb
  obtain ⟨_, ⟨sp, sp'⟩, _, ⟨so, _⟩, _, _⟩ := hs
  have hpg := sp' page
  have hkl := kind_lt (at_ b.pages page)
  simp (config := {contextual := true, maxSteps := 1000000}) (disch := first | exact dA | fail) [go_sem, envOf, wrap_i64, int_lt, -Int.not_le, -Int.not_lt, Bool.decide_and, Bool.decide_or, and_assoc, Bool.and_assoc, Bool.or_assoc, Prod.exists, Prod.forall, ord138, pageP]
@[go_sem] theorem zPage_s (σ : AHeap) (b : Bk) (pv h0 h1 h2 h3 ov iv ev : AV) (page : Int) (hb : BkV σ b pv h0 h1 h2 h3 ov iv ev) (hs : BkS b) (h : 0 ≤ page ∧ page < b.pages.length ∧ b.owner.length = b.pages.length * 8) (kk_ : AV → AHeap → Prop) : @callP Tryz.prog (.fn 138 [] []) [bV b pv h0 h1 h2 h3 ov iv ev, .int .i64 page] σ ⟨kk_⟩ = @Alt (kk_ (.bool (decide (pageP b page))) σ) ⟨@callP Tryz.prog (.fn 138 [] []) [bV b pv h0 h1 h2 h3 ov iv ev, .int .i64 page] σ ⟨kk_⟩⟩ := callP_alt (zPage_fn σ b pv h0 h1 h2 h3 ov iv ev page hb hs h)
theorem zLists_fn (σ : AHeap) (b : Bk) (pv h0 h1 h2 h3 ov iv ev : AV) (hb : BkV σ b pv h0 h1 h2 h3 ov iv ev) (hs : BkS b) (h : b.owner.length = b.pages.length * 8) : Fn Tryz.prog 137 [bV b pv h0 h1 h2 h3 ov iv ev] σ fun x τ => x = .bool (decide (listsP b)) ∧ τ = σ := by
  refine fn_pure ord137 mixed Tryz.func137 (by kernel_rfl) rfl (by kernel_rfl) (by rfl) ?_
  have hb' := hb
  have hs' := hs
  obtain ⟨vp, v0, v1, v2, v3, vo, _, _⟩ := hb
  obtain ⟨_, ⟨sp, sp'⟩, sh, ⟨so, _⟩, _, _⟩ := hs
  simp (config := {contextual := true, maxSteps := 1000000}) (disch := first | exact dA | fail) [go_sem, envOf, wrap_i64, int_lt, -Int.not_le, -Int.not_lt, Bool.decide_and, Bool.decide_or, and_assoc, Bool.and_assoc, Bool.or_assoc, Prod.exists, Prod.forall, ord137]
  refine aloops_lt (fun R_ env τ => ∃ (k : Int), env 1 = .ptr σ.n 0 ∧ env 3 = .int .i64 k ∧ bHp σ b pv h0 h1 h2 h3 ov iv ev = τ ∧ R_ ((4 - k).toNat) ∧ (0 ≤ k ∧ k ≤ 4 ∧ ∀ j : Nat, (j : Int) < k → listK b j)) (by rintro R_ env τ ⟨k, e1, e3, h_, hR_, hp⟩; exact ⟨_, hR_, k, e1, e3, h_, rfl, hp⟩) ⟨0, by first | rfl | simp [put_get, *], by first | rfl | simp [put_get, *], rfl, trivial, ?_⟩ ?_
  rotate_left
  rintro m_ env τ ⟨k, e1, e3, rfl, rfl, hp⟩
  rotate_left
  · refine ⟨by omega, by omega, fun j hj => by omega⟩
  have hk : k = 0 ∨ k = 1 ∨ k = 2 ∨ k = 3 ∨ k = 4 := by omega
  rcases hk with rfl | rfl | rfl | rfl | rfl
  · have sx := sh 0
    have hpo := hp
    obtain ⟨sx, sx'⟩ := sx
    simp (config := {contextual := true, maxSteps := 1000000}) (disch := first | exact dA | fail) [go_sem, envOf, wrap_i64, int_lt, -Int.not_le, -Int.not_lt, Bool.decide_and, Bool.decide_or, and_assoc, Bool.and_assoc, Bool.or_assoc, Prod.exists, Prod.forall, ord137, e1, e3]
    refine ⟨fun hq hl => ?_, fun hq => ?_⟩
    · have := (hl 0 (by decide)).1; omega
    refine aloops_lt (fun R_ env τ => ∃ (i : Int), env 1 = .ptr σ.n 0 ∧ env 3 = .int .i64 0 ∧ env 4 = .int .i64 i ∧ bHp σ b pv h0 h1 h2 h3 ov iv ev = τ ∧ R_ (((b.heads 0).length - i).toNat) ∧ (0 ≤ i ∧ i ≤ (b.heads 0).length ∧ ∀ q : Int, 0 ≤ q → q < i → 0 ≤ at_ (b.heads 0) q ∧ at_ (b.heads 0) q < b.owner.length ∧ kindOf (at_ b.pages (at_ (b.heads 0) q / 8)) = (0 : Nat) ∧ at_ (b.heads 0) q % sz (0 : Nat) ≤ 0)) (by rintro R_ env τ ⟨i, e1, e3, e4, h_, hR_, hp⟩; exact ⟨_, hR_, i, e1, e3, e4, h_, rfl, hp⟩) ⟨0, by first | rfl | simp [put_get, *], by first | rfl | simp [put_get, *], by first | rfl | simp [put_get, *], rfl, trivial, ?_⟩ ?_
    rotate_left
    rintro m_ env τ ⟨i, e1, e3, e4, rfl, rfl, hp⟩
    rotate_left
    · refine ⟨by omega, by omega, fun q q1 q2 => by omega⟩
    have sxi := sx' i
    have spi := sp' (at_ (b.heads 0) i / 8)
    simp (config := {contextual := true, maxSteps := 1000000}) (disch := first | exact dA | fail) [go_sem, envOf, wrap_i64, int_lt, -Int.not_le, -Int.not_lt, Bool.decide_and, Bool.decide_or, and_assoc, Bool.and_assoc, Bool.or_assoc, Prod.exists, Prod.forall, ord137, e1, e3, e4, Int.tdiv_eq_ediv_of_nonneg, Int.tmod_eq_emod_of_nonneg, sz0]
    have ez : sz ((0 : Nat) : Int) = 1 := rfl
    refine ⟨fun hi => Alt.mk (Alt.mk ⟨fun hx hl => ?_, fun a1 a2 a3 => ⟨by omega, by omega, by omega, fun q q1 q2 => ?_⟩⟩), fun hi j hj => ?_⟩
    · have hh := (hl 0 (by decide)).2 i (by omega) (by omega)
      rw [ez] at hh
      rcases hx with hx | hx | hx <;> omega
    · by_cases e : q = i
      · subst e; exact ⟨a1, a2, a3⟩
      · have := hp.2.2 q q1 (by omega)
        rw [ez] at this
        exact ⟨this.1, by omega, this.2.2.1⟩
    · by_cases e : j = 0
      · subst e; exact ⟨by omega, fun q q1 q2 => hp.2.2 q q1 (by omega)⟩
      · exact hpo.2.2 j (by omega)
  · have sx := sh 1
    have hpo := hp
    obtain ⟨sx, sx'⟩ := sx
    simp (config := {contextual := true, maxSteps := 1000000}) (disch := first | exact dA | fail) [go_sem, envOf, wrap_i64, int_lt, -Int.not_le, -Int.not_lt, Bool.decide_and, Bool.decide_or, and_assoc, Bool.and_assoc, Bool.or_assoc, Prod.exists, Prod.forall, ord137, e1, e3]
    refine ⟨fun hq hl => ?_, fun hq => ?_⟩
    · have := (hl 1 (by decide)).1; omega
    refine aloops_lt (fun R_ env τ => ∃ (i : Int), env 1 = .ptr σ.n 0 ∧ env 3 = .int .i64 1 ∧ env 4 = .int .i64 i ∧ bHp σ b pv h0 h1 h2 h3 ov iv ev = τ ∧ R_ (((b.heads 1).length - i).toNat) ∧ (0 ≤ i ∧ i ≤ (b.heads 1).length ∧ ∀ q : Int, 0 ≤ q → q < i → 0 ≤ at_ (b.heads 1) q ∧ at_ (b.heads 1) q < b.owner.length ∧ kindOf (at_ b.pages (at_ (b.heads 1) q / 8)) = (1 : Nat) ∧ at_ (b.heads 1) q % sz (1 : Nat) ≤ 0)) (by rintro R_ env τ ⟨i, e1, e3, e4, h_, hR_, hp⟩; exact ⟨_, hR_, i, e1, e3, e4, h_, rfl, hp⟩) ⟨0, by first | rfl | simp [put_get, *], by first | rfl | simp [put_get, *], by first | rfl | simp [put_get, *], rfl, trivial, ?_⟩ ?_
    rotate_left
    rintro m_ env τ ⟨i, e1, e3, e4, rfl, rfl, hp⟩
    rotate_left
    · refine ⟨by omega, by omega, fun q q1 q2 => by omega⟩
    have sxi := sx' i
    have spi := sp' (at_ (b.heads 1) i / 8)
    simp (config := {contextual := true, maxSteps := 1000000}) (disch := first | exact dA | fail) [go_sem, envOf, wrap_i64, int_lt, -Int.not_le, -Int.not_lt, Bool.decide_and, Bool.decide_or, and_assoc, Bool.and_assoc, Bool.or_assoc, Prod.exists, Prod.forall, ord137, e1, e3, e4, Int.tdiv_eq_ediv_of_nonneg, Int.tmod_eq_emod_of_nonneg, sz1]
    have ez : sz ((1 : Nat) : Int) = 2 := rfl
    refine ⟨fun hi => Alt.mk (Alt.mk ⟨fun hx hl => ?_, fun a1 a2 a3 a4 => ⟨by omega, by omega, by omega, fun q q1 q2 => ?_⟩⟩), fun hi j hj => ?_⟩
    · have hh := (hl 1 (by decide)).2 i (by omega) (by omega)
      rw [ez] at hh
      rcases hx with hx | hx | hx | hx <;> omega
    · by_cases e : q = i
      · subst e; exact ⟨a1, a2, a3, a4⟩
      · have := hp.2.2 q q1 (by omega)
        rw [ez] at this
        exact ⟨this.1, by omega, this.2.2.1, this.2.2.2⟩
    · by_cases e : j = 1
      · subst e; exact ⟨by omega, fun q q1 q2 => hp.2.2 q q1 (by omega)⟩
      · exact hpo.2.2 j (by omega)
  · have sx := sh 2
    have hpo := hp
    obtain ⟨sx, sx'⟩ := sx
    simp (config := {contextual := true, maxSteps := 1000000}) (disch := first | exact dA | fail) [go_sem, envOf, wrap_i64, int_lt, -Int.not_le, -Int.not_lt, Bool.decide_and, Bool.decide_or, and_assoc, Bool.and_assoc, Bool.or_assoc, Prod.exists, Prod.forall, ord137, e1, e3]
    refine ⟨fun hq hl => ?_, fun hq => ?_⟩
    · have := (hl 2 (by decide)).1; omega
    refine aloops_lt (fun R_ env τ => ∃ (i : Int), env 1 = .ptr σ.n 0 ∧ env 3 = .int .i64 2 ∧ env 4 = .int .i64 i ∧ bHp σ b pv h0 h1 h2 h3 ov iv ev = τ ∧ R_ (((b.heads 2).length - i).toNat) ∧ (0 ≤ i ∧ i ≤ (b.heads 2).length ∧ ∀ q : Int, 0 ≤ q → q < i → 0 ≤ at_ (b.heads 2) q ∧ at_ (b.heads 2) q < b.owner.length ∧ kindOf (at_ b.pages (at_ (b.heads 2) q / 8)) = (2 : Nat) ∧ at_ (b.heads 2) q % sz (2 : Nat) ≤ 0)) (by rintro R_ env τ ⟨i, e1, e3, e4, h_, hR_, hp⟩; exact ⟨_, hR_, i, e1, e3, e4, h_, rfl, hp⟩) ⟨0, by first | rfl | simp [put_get, *], by first | rfl | simp [put_get, *], by first | rfl | simp [put_get, *], rfl, trivial, ?_⟩ ?_
    rotate_left
    rintro m_ env τ ⟨i, e1, e3, e4, rfl, rfl, hp⟩
    rotate_left
    · refine ⟨by omega, by omega, fun q q1 q2 => by omega⟩
    have sxi := sx' i
    have spi := sp' (at_ (b.heads 2) i / 8)
    simp (config := {contextual := true, maxSteps := 1000000}) (disch := first | exact dA | fail) [go_sem, envOf, wrap_i64, int_lt, -Int.not_le, -Int.not_lt, Bool.decide_and, Bool.decide_or, and_assoc, Bool.and_assoc, Bool.or_assoc, Prod.exists, Prod.forall, ord137, e1, e3, e4, Int.tdiv_eq_ediv_of_nonneg, Int.tmod_eq_emod_of_nonneg, sz2]
    have ez : sz ((2 : Nat) : Int) = 4 := rfl
    refine ⟨fun hi => Alt.mk (Alt.mk ⟨fun hx hl => ?_, fun a1 a2 a3 a4 => ⟨by omega, by omega, by omega, fun q q1 q2 => ?_⟩⟩), fun hi j hj => ?_⟩
    · have hh := (hl 2 (by decide)).2 i (by omega) (by omega)
      rw [ez] at hh
      rcases hx with hx | hx | hx | hx <;> omega
    · by_cases e : q = i
      · subst e; exact ⟨a1, a2, a3, a4⟩
      · have := hp.2.2 q q1 (by omega)
        rw [ez] at this
        exact ⟨this.1, by omega, this.2.2.1, this.2.2.2⟩
    · by_cases e : j = 2
      · subst e; exact ⟨by omega, fun q q1 q2 => hp.2.2 q q1 (by omega)⟩
      · exact hpo.2.2 j (by omega)
  · have sx := sh 3
    have hpo := hp
    obtain ⟨sx, sx'⟩ := sx
    simp (config := {contextual := true, maxSteps := 1000000}) (disch := first | exact dA | fail) [go_sem, envOf, wrap_i64, int_lt, -Int.not_le, -Int.not_lt, Bool.decide_and, Bool.decide_or, and_assoc, Bool.and_assoc, Bool.or_assoc, Prod.exists, Prod.forall, ord137, e1, e3]
    refine ⟨fun hq hl => ?_, fun hq => ?_⟩
    · have := (hl 3 (by decide)).1; omega
    refine aloops_lt (fun R_ env τ => ∃ (i : Int), env 1 = .ptr σ.n 0 ∧ env 3 = .int .i64 3 ∧ env 4 = .int .i64 i ∧ bHp σ b pv h0 h1 h2 h3 ov iv ev = τ ∧ R_ (((b.heads 3).length - i).toNat) ∧ (0 ≤ i ∧ i ≤ (b.heads 3).length ∧ ∀ q : Int, 0 ≤ q → q < i → 0 ≤ at_ (b.heads 3) q ∧ at_ (b.heads 3) q < b.owner.length ∧ kindOf (at_ b.pages (at_ (b.heads 3) q / 8)) = (3 : Nat) ∧ at_ (b.heads 3) q % sz (3 : Nat) ≤ 0)) (by rintro R_ env τ ⟨i, e1, e3, e4, h_, hR_, hp⟩; exact ⟨_, hR_, i, e1, e3, e4, h_, rfl, hp⟩) ⟨0, by first | rfl | simp [put_get, *], by first | rfl | simp [put_get, *], by first | rfl | simp [put_get, *], rfl, trivial, ?_⟩ ?_
    rotate_left
    rintro m_ env τ ⟨i, e1, e3, e4, rfl, rfl, hp⟩
    rotate_left
    · refine ⟨by omega, by omega, fun q q1 q2 => by omega⟩
    have sxi := sx' i
    have spi := sp' (at_ (b.heads 3) i / 8)
    simp (config := {contextual := true, maxSteps := 1000000}) (disch := first | exact dA | fail) [go_sem, envOf, wrap_i64, int_lt, -Int.not_le, -Int.not_lt, Bool.decide_and, Bool.decide_or, and_assoc, Bool.and_assoc, Bool.or_assoc, Prod.exists, Prod.forall, ord137, e1, e3, e4, Int.tdiv_eq_ediv_of_nonneg, Int.tmod_eq_emod_of_nonneg, sz3]
    have ez : sz ((3 : Nat) : Int) = 8 := rfl
    refine ⟨fun hi => Alt.mk (Alt.mk ⟨fun hx hl => ?_, fun a1 a2 a3 a4 => ⟨by omega, by omega, by omega, fun q q1 q2 => ?_⟩⟩), fun hi j hj => ?_⟩
    · have hh := (hl 3 (by decide)).2 i (by omega) (by omega)
      rw [ez] at hh
      rcases hx with hx | hx | hx | hx <;> omega
    · by_cases e : q = i
      · subst e; exact ⟨a1, a2, a3, a4⟩
      · have := hp.2.2 q q1 (by omega)
        rw [ez] at this
        exact ⟨this.1, by omega, this.2.2.1, this.2.2.2⟩
    · by_cases e : j = 3
      · subst e; exact ⟨by omega, fun q q1 q2 => hp.2.2 q q1 (by omega)⟩
      · exact hpo.2.2 j (by omega)
  · simp (config := {contextual := true, maxSteps := 1000000}) (disch := first | exact dA | fail) [go_sem, envOf, wrap_i64, int_lt, -Int.not_le, -Int.not_lt, Bool.decide_and, Bool.decide_or, and_assoc, Bool.and_assoc, Bool.or_assoc, Prod.exists, Prod.forall, ord137, e1, e3]
    exact fun j hj => hp.2.2 j (by omega)
@[go_sem] theorem zLists_s (σ : AHeap) (b : Bk) (pv h0 h1 h2 h3 ov iv ev : AV) (hb : BkV σ b pv h0 h1 h2 h3 ov iv ev) (hs : BkS b) (h : b.owner.length = b.pages.length * 8) (kk_ : AV → AHeap → Prop) : @callP Tryz.prog (.fn 137 [] []) [bV b pv h0 h1 h2 h3 ov iv ev] σ ⟨kk_⟩ = @Alt (kk_ (.bool (decide (listsP b))) σ) ⟨@callP Tryz.prog (.fn 137 [] []) [bV b pv h0 h1 h2 h3 ov iv ev] σ ⟨kk_⟩⟩ := callP_alt (zLists_fn σ b pv h0 h1 h2 h3 ov iv ev hb hs h)
theorem zBookOk_fn (σ : AHeap) (b : Bk) (pv h0 h1 h2 h3 ov iv ev : AV) (hb : BkV σ b pv h0 h1 h2 h3 ov iv ev) (hs : BkS b) : Fn Tryz.prog 73 [bV b pv h0 h1 h2 h3 ov iv ev] σ fun x τ => x = .bool (decide (bookP b)) ∧ τ = σ := by
  refine fn_pure ord0 mixed Tryz.func73 (by kernel_rfl) rfl (by kernel_rfl) (by rfl) ?_
  have hb' := hb
  have hs' := hs
  obtain ⟨vp, v0, v1, v2, v3, vo, _, _⟩ := hb
  obtain ⟨_, ⟨sp, sp'⟩, sh, ⟨so, _⟩, _, _⟩ := hs
  by_cases hsl : slotsP b
  rotate_left
  · have hnb : ¬ bookP b := fun h => hsl h.1
    simp (config := {contextual := true, maxSteps := 1000000}) (disch := first | exact dA | fail) [go_sem, envOf, wrap_i64, int_lt, -Int.not_le, -Int.not_lt, Bool.decide_and, Bool.decide_or, and_assoc, Bool.and_assoc, Bool.or_assoc, Prod.exists, Prod.forall, hsl, hnb]
  have hol : b.owner.length = b.pages.length * 8 := hsl.1.2.2.2.2.2.2
  by_cases hli : listsP b
  rotate_left
  · have hnb : ¬ bookP b := fun h => hli h.2.1
    simp (config := {contextual := true, maxSteps := 1000000}) (disch := first | exact dA | fail) [go_sem, envOf, wrap_i64, int_lt, -Int.not_le, -Int.not_lt, Bool.decide_and, Bool.decide_or, and_assoc, Bool.and_assoc, Bool.or_assoc, Prod.exists, Prod.forall, hsl, hli, hnb]
  simp (config := {contextual := true, maxSteps := 1000000}) (disch := first | exact dA | fail) [go_sem, envOf, wrap_i64, int_lt, -Int.not_le, -Int.not_lt, Bool.decide_and, Bool.decide_or, and_assoc, Bool.and_assoc, Bool.or_assoc, Prod.exists, Prod.forall, hsl, hli]
  refine Alt.mk (Alt.mk ?_)
  refine aloops_lt (fun R_ env τ => ∃ (p : Int), env 1 = .ptr σ.n 0 ∧ env 3 = .int .i64 p ∧ bHp σ b pv h0 h1 h2 h3 ov iv ev = τ ∧ R_ ((b.pages.length - p).toNat) ∧ (0 ≤ p ∧ p ≤ b.pages.length ∧ ∀ q : Int, 0 ≤ q → q < p → pageP b q)) (by rintro R_ env τ ⟨p, e1, e3, h_, hR_, hp⟩; exact ⟨_, hR_, p, e1, e3, h_, rfl, hp⟩) ⟨0, by first | rfl | simp [put_get, *], by first | rfl | simp [put_get, *], rfl, trivial, ?_⟩ ?_
  rotate_left
  rintro m_ env τ ⟨p, e1, e3, rfl, rfl, hp⟩
  rotate_left
  · refine ⟨by omega, by omega, fun q q1 q2 => by omega⟩
  simp (config := {contextual := true, maxSteps := 1000000}) (disch := first | exact dA | fail) [go_sem, envOf, wrap_i64, int_lt, -Int.not_le, -Int.not_lt, Bool.decide_and, Bool.decide_or, and_assoc, Bool.and_assoc, Bool.or_assoc, Prod.exists, Prod.forall, e1, e3]
  refine ⟨fun hi => Alt.mk ⟨fun hx hbk => hx (hbk.2.2 p (by omega) (by omega)), fun hx => ⟨by omega, by omega, by omega, fun q q1 q2 => ?_⟩⟩, fun hi => ⟨hsl, hli, fun q q1 q2 => hp.2.2 q q1 (by omega)⟩⟩
  by_cases e : q = p
  · subst e; exact hx
  · exact hp.2.2 q q1 (by omega)
@[go_sem] theorem zBookOk_s (σ : AHeap) (b : Bk) (pv h0 h1 h2 h3 ov iv ev : AV) (hb : BkV σ b pv h0 h1 h2 h3 ov iv ev) (hs : BkS b) (kk_ : AV → AHeap → Prop) : @callP Tryz.prog (.fn 73 [] []) [bV b pv h0 h1 h2 h3 ov iv ev] σ ⟨kk_⟩ = @Alt (kk_ (.bool (decide (bookP b))) σ) ⟨@callP Tryz.prog (.fn 73 [] []) [bV b pv h0 h1 h2 h3 ov iv ev] σ ⟨kk_⟩⟩ := callP_alt (zBookOk_fn σ b pv h0 h1 h2 h3 ov iv ev hb hs)
end AH
