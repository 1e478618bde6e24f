import Derived.Test.YtagihpbpblnnoaaGreatQ03
import Derived.Test.YtagihpbpblnnoaaGreatQ05
import Derived.Test.YtagihpbpblnnoaaGreatQ06
set_option linter.all false
namespace AH
open Go Go.Proofs Ho
set_option maxRecDepth 10000
theorem ashl_u64 (t : TypeId) (k : IntKind) (a b : Int) : abin Tryz.prog .shl t (.int .u64 a) (.int k b) = ashift .shl .u64 a b := rfl
theorem ashr_u64 (t : TypeId) (k : IntKind) (a b : Int) : abin Tryz.prog .shr t (.int .u64 a) (.int k b) = ashift .shr .u64 a b := rfl
theorem ashl_i64 (t : TypeId) (k : IntKind) (a b : Int) : abin Tryz.prog .shl t (.int .i64 a) (.int k b) = ashift .shl .i64 a b := rfl
theorem within_fn (σ : AHeap) (n lo hi : Int) : Fn Tryz.prog 110 [.int .i64 n, .int .i64 lo, .int .i64 hi] σ fun x τ => x = .bool (decide (lo ≤ n) && decide (n ≤ hi)) ∧ τ = σ := by
  refine fn_pure ord0 mixed Tryz.func110 (by kernel_rfl) rfl (by kernel_rfl) (by rfl) ?_
  by_cases h1 : lo ≤ n <;> simp [go_sem, envOf, h1]
@[go_sem] theorem within_s (σ : AHeap) (n lo hi : Int) (kk_ : AV → AHeap → Prop) : @callP Tryz.prog (.fn 110 [] []) [.int .i64 n, .int .i64 lo, .int .i64 hi] σ ⟨kk_⟩ = @Alt (kk_ (.bool (decide (lo ≤ n) && decide (n ≤ hi))) σ) ⟨@callP Tryz.prog (.fn 110 [] []) [.int .i64 n, .int .i64 lo, .int .i64 hi] σ ⟨kk_⟩⟩ := callP_alt (within_fn σ n lo hi)
@[go_sem] theorem within_g (σ : AHeap) (b_ : Bool) (n lo hi : Int) (kk_ : AV → AHeap → Prop) : @gC Tryz.prog b_ (.fn 110 [] []) [.int .i64 n, .int .i64 lo, .int .i64 hi] σ ⟨kk_⟩ = @Alt (kk_ (gv b_ (.bool (decide (lo ≤ n) && decide (n ≤ hi)))) σ) ⟨@gC Tryz.prog b_ (.fn 110 [] []) [.int .i64 n, .int .i64 lo, .int .i64 hi] σ ⟨kk_⟩⟩ := gC_alt b_ fun hb_ => within_fn σ n lo hi
theorem clamp_fn (σ : AHeap) (n m : Int) : Fn Tryz.prog 180 [.int .i64 n, .int .i64 m] σ fun x τ => x = .int .i64 (clamp n m) ∧ τ = σ := by
  refine fn_pure ord0 mixed Tryz.func180 (by kernel_rfl) rfl (by kernel_rfl) (by rfl) ?_
  simp [go_sem, envOf, amin2, amax2, clamp]
  omega
@[go_sem] theorem clamp_s (σ : AHeap) (n m : Int) (kk_ : AV → AHeap → Prop) : @callP Tryz.prog (.fn 180 [] []) [.int .i64 n, .int .i64 m] σ ⟨kk_⟩ = @Alt (kk_ (.int .i64 (clamp n m)) σ) ⟨@callP Tryz.prog (.fn 180 [] []) [.int .i64 n, .int .i64 m] σ ⟨kk_⟩⟩ := callP_alt (clamp_fn σ n m)
theorem clamp_range {n m : Int} (h : 0 ≤ m) : 0 ≤ clamp n m ∧ clamp n m ≤ m := by unfold clamp; omega
theorem u64_bits : IntKind.u64.bits = 64 := rfl
theorem or_u64 (a b : Int) (ha : 0 ≤ a ∧ a < 4294967296) (hb : 0 ≤ b ∧ b < 4294967296) :
    IntKind.u64.wrap ((BitVec.ofInt IntKind.u64.bits (a * 4294967296) ||| BitVec.ofInt IntKind.u64.bits b).toNat) = a * 4294967296 + b := by
  obtain ⟨x, rfl⟩ := Int.eq_ofNat_of_zero_le ha.1
  obtain ⟨y, rfl⟩ := Int.eq_ofNat_of_zero_le hb.1
  have e : ((x : Int) * 4294967296) = ((x * 4294967296 : Nat) : Int) := by omega
  rw [e, BitVec.ofInt_natCast, BitVec.ofInt_natCast, BitVec.toNat_or, BitVec.toNat_ofNat, BitVec.toNat_ofNat, u64_bits, Nat.mod_eq_of_lt (by omega), Nat.mod_eq_of_lt (by omega)]
  have : x * 4294967296 ||| y = x * 4294967296 + y := by
    have h := Nat.two_pow_add_eq_or_of_lt (i := 32) (b := y) (by omega) x
    rw [show (2:Nat) ^ 32 = 4294967296 by decide] at h
    rw [Nat.mul_comm x, ← h]
  rw [this, wrap_u64 (by omega)]
  omega
theorem and_u64 (a : Int) (ha : isW a) : IntKind.u64.wrap ((BitVec.ofInt IntKind.u64.bits a &&& BitVec.ofInt IntKind.u64.bits 4294967295).toNat) = cval a := by
  unfold isW at ha
  obtain ⟨x, rfl⟩ := Int.eq_ofNat_of_zero_le ha.1
  rw [show (4294967295 : Int) = ((4294967295 : Nat) : Int) by rfl, BitVec.ofInt_natCast, BitVec.ofInt_natCast, BitVec.toNat_and, BitVec.toNat_ofNat, BitVec.toNat_ofNat, u64_bits, Nat.mod_eq_of_lt (by omega), Nat.mod_eq_of_lt (by omega)]
  have : x &&& 4294967295 = x % 4294967296 := by
    have h := Nat.and_two_pow_sub_one_eq_mod x 32
    rw [show (2:Nat) ^ 32 = 4294967296 by decide] at h
    simpa using h
  rw [this, wrap_u64 (by omega)]
  unfold cval
  omega
theorem cstamp_fn (σ : AHeap) (w : Int) (hw : isW w) : Fn Tryz.prog 45 [.int .u64 w] σ fun x τ => x = .int .i64 (cstamp w) ∧ τ = σ := by
  refine fn_pure ord0 mixed Tryz.func45 (by kernel_rfl) rfl (by kernel_rfl) (by rfl) ?_
  have h := cstamp_range hw
  have : w.fdiv 4294967296 = cstamp w := Int.fdiv_eq_ediv_of_nonneg _ (by decide)
  simp [go_sem, envOf, ashr_u64, u64_bits, this, wrap_i64 (n := cstamp w) (by omega)]
@[go_sem] theorem cstamp_s (σ : AHeap) (w : Int) (hw : isW w) (kk_ : AV → AHeap → Prop) : @callP Tryz.prog (.fn 45 [] []) [.int .u64 w] σ ⟨kk_⟩ = @Alt (kk_ (.int .i64 (cstamp w)) σ) ⟨@callP Tryz.prog (.fn 45 [] []) [.int .u64 w] σ ⟨kk_⟩⟩ := callP_alt (cstamp_fn σ w hw)
theorem cval_fn (σ : AHeap) (w : Int) (hw : isW w) : Fn Tryz.prog 56 [.int .u64 w] σ fun x τ => x = .int .i64 (cval w) ∧ τ = σ := by
  refine fn_pure ord0 mixed Tryz.func56 (by kernel_rfl) rfl (by kernel_rfl) (by rfl) ?_
  have h := cval_range (w := w)
  simp [go_sem, envOf]
  exact (congrArg IntKind.i64.wrap (and_u64 w hw)).trans (wrap_i64 (by omega))
@[go_sem] theorem cval_s (σ : AHeap) (w : Int) (hw : isW w) (kk_ : AV → AHeap → Prop) : @callP Tryz.prog (.fn 56 [] []) [.int .u64 w] σ ⟨kk_⟩ = @Alt (kk_ (.int .i64 (cval w)) σ) ⟨@callP Tryz.prog (.fn 56 [] []) [.int .u64 w] σ ⟨kk_⟩⟩ := callP_alt (cval_fn σ w hw)
theorem pack_fn (σ : AHeap) (val stamp : Int) : Fn Tryz.prog 130 [.int .i64 val, .int .i64 stamp] σ fun x τ => x = .int .u64 (pack val stamp) ∧ τ = σ := by
  refine fn_pure ord0 mixed Tryz.func130 (by kernel_rfl) rfl (by kernel_rfl) (by rfl) ?_
  have h1 := clamp_range (n := val) (m := 4294967295) (by decide)
  have h2 := clamp_range (n := stamp) (m := 4294967295) (by decide)
  simp [go_sem, envOf, ashl_u64, u64_bits, wrap_u64 (n := clamp val 4294967295) (by omega), wrap_u64 (n := clamp stamp 4294967295) (by omega), wrap_u64 (n := clamp stamp 4294967295 * 4294967296) (by omega), pack]
  exact Alt.mk (Alt.mk (or_u64 _ _ (by omega) (by omega)))
@[go_sem] theorem pack_s (σ : AHeap) (val stamp : Int) (kk_ : AV → AHeap → Prop) : @callP Tryz.prog (.fn 130 [] []) [.int .i64 val, .int .i64 stamp] σ ⟨kk_⟩ = @Alt (kk_ (.int .u64 (pack val stamp)) σ) ⟨@callP Tryz.prog (.fn 130 [] []) [.int .i64 val, .int .i64 stamp] σ ⟨kk_⟩⟩ := callP_alt (pack_fn σ val stamp)
theorem door_fn (σ : AHeap) (state slot epoch stamp : Int) : Fn Tryz.prog 131 [.int .i64 state, .int .i64 slot, .int .i64 epoch, .int .i64 stamp] σ fun x τ => x = .int .u64 (cdoor state slot epoch stamp) ∧ τ = σ := by
  refine fn_pure ord0 mixed Tryz.func131 (by kernel_rfl) rfl (by kernel_rfl) (by rfl) ?_
  have h1 := clamp_range (n := state) (m := 2) (by decide)
  have h2 := clamp_range (n := slot) (m := 7) (by decide)
  have h3 := clamp_range (n := epoch) (m := 4095) (by decide)
  simp (disch := omega) [go_sem, envOf, wrap_i64, cdoor]
theorem reg_fn (σ : AHeap) (state epoch stamp : Int) : Fn Tryz.prog 245 [.int .i64 state, .int .i64 epoch, .int .i64 stamp] σ fun x τ => x = .int .u64 (creg state epoch stamp) ∧ τ = σ := by
  refine fn_pure ord0 mixed Tryz.func245 (by kernel_rfl) rfl (by kernel_rfl) (by rfl) ?_
  have h1 := clamp_range (n := state) (m := 2) (by decide)
  have h3 := clamp_range (n := epoch) (m := 4095) (by decide)
  simp (disch := omega) [go_sem, envOf, wrap_i64, creg]
theorem entry_fn (σ : AHeap) (addr val stamp : Int) : Fn Tryz.prog 222 [.int .i64 addr, .int .i64 val, .int .i64 stamp] σ fun x τ => x = .int .u64 (centry addr val stamp) ∧ τ = σ := by
  refine fn_pure ord0 mixed Tryz.func222 (by kernel_rfl) rfl (by kernel_rfl) (by rfl) ?_
  have h1 := clamp_range (n := addr) (m := 4095) (by decide)
  have h3 := clamp_range (n := val) (m := 1048575) (by decide)
  simp (disch := omega) [go_sem, envOf, wrap_i64, centry]
theorem regOf_fn (σ : AHeap) (w : Int) (hw : isW w) : Fn Tryz.prog 30 [.int .u64 w] σ fun x τ => x = .tup [.int .i64 (cval w % 4), .int .i64 (cval w / 4)] ∧ τ = σ := by
  refine fn_pure ord0 mixed Tryz.func30 (by kernel_rfl) rfl (by kernel_rfl) (by rfl) ?_
  have h := cval_range (w := w)
  simp (disch := first | assumption | omega) [go_sem, envOf, wrap_i64, Int.tdiv_eq_ediv_of_nonneg, Int.tmod_eq_emod_of_nonneg]
theorem doorOf_fn (σ : AHeap) (w : Int) (hw : isW w) : Fn Tryz.prog 168 [.int .u64 w] σ fun x τ => x = .tup [.int .i64 (cval w % 4), .int .i64 (cval w / 4 % 8), .int .i64 (cval w / 32)] ∧ τ = σ := by
  refine fn_pure ord0 mixed Tryz.func168 (by kernel_rfl) rfl (by kernel_rfl) (by rfl) ?_
  have h := cval_range (w := w)
  simp (disch := first | assumption | omega) [go_sem, envOf, wrap_i64, Int.tdiv_eq_ediv_of_nonneg, Int.tmod_eq_emod_of_nonneg]
theorem entryOf_fn (σ : AHeap) (w : Int) (hw : isW w) : Fn Tryz.prog 53 [.int .u64 w] σ fun x τ => x = .tup [.int .i64 (cval w / 1048576), .int .i64 (cval w % 1048576)] ∧ τ = σ := by
  refine fn_pure ord0 mixed Tryz.func53 (by kernel_rfl) rfl (by kernel_rfl) (by rfl) ?_
  have h := cval_range (w := w)
  simp (disch := first | assumption | omega) [go_sem, envOf, wrap_i64, Int.tdiv_eq_ediv_of_nonneg, Int.tmod_eq_emod_of_nonneg]
end AH
