import Derived.Test.YtagihpbpblnnoaaGreatQ04
set_option linter.all false
namespace Ho
def clamp (n m : Int) : Int := max 0 (min n m)
def pack (val stamp : Int) : Int := clamp stamp 4294967295 * 4294967296 + clamp val 4294967295
def cval (w : Int) : Int := w % 4294967296
def cstamp (w : Int) : Int := w / 4294967296
def isW (w : Int) : Prop := 0 ≤ w ∧ w < 18446744073709551616
def cdoor (state slot epoch stamp : Int) : Int := pack (clamp state 2 + 4 * clamp slot 7 + 32 * clamp epoch 4095) stamp
def creg (state epoch stamp : Int) : Int := pack (clamp state 2 + 4 * clamp epoch 4095) stamp
def centry (addr val stamp : Int) : Int := pack (clamp addr 4095 * 1048576 + clamp val 1048575) stamp
structure Cfg where
  slots : Int
  pages : Int
  lease : Int
def Cfg.ok (c : Cfg) : Prop := 1 ≤ c.slots ∧ c.slots ≤ 4 ∧ 1 ≤ c.pages ∧ c.pages ≤ 6 ∧ 1 ≤ c.lease ∧ c.lease ≤ 20
instance (c : Cfg) : Decidable c.ok := by unfold Cfg.ok; infer_instance
def Cfg.beatAt (c : Cfg) : Int := 3 + c.slots
def Cfg.headAt (c : Cfg) : Int := 3 + 2 * c.slots
def Cfg.pageAt (c : Cfg) : Int := 7 + 2 * c.slots
def Cfg.tagAt (c : Cfg) : Int := 7 + 2 * c.slots + c.pages
def Cfg.linkAt (c : Cfg) : Int := 7 + 2 * c.slots + 9 * c.pages
def Cfg.deskAt (c : Cfg) : Int := 7 + 2 * c.slots + 17 * c.pages
def Cfg.size (c : Cfg) : Int := 7 + 23 * c.slots + 17 * c.pages
/-- The list's place j, 0 where there is none. -/
def at_ (ws : List Int) (j : Int) : Int := ws.getD j.toNat 0
def cfgOf (ws : List Int) : Cfg × Bool :=
  if ws = [] ∨ cstamp (at_ ws 0) ≠ 201115 then (⟨0, 0, 0⟩, false)
  else
    let v := cval (at_ ws 0)
    (⟨v % 8, v / 8 % 8, v / 64⟩, decide (Cfg.ok ⟨v % 8, v / 8 % 8, v / 64⟩))
def platCheck (ws : List Int) : Cfg × Bool :=
  if (cfgOf ws).2 = true ∧ (ws.length : Int) = (cfgOf ws).1.size then ((cfgOf ws).1, true) else (⟨0, 0, 0⟩, false)
def aliveB (beat epoch clock lease : Int) : Bool := decide (epoch < cstamp beat) || (decide (cstamp beat = epoch) && decide (clock - cval beat ≤ lease))
theorem pack_isW (v s : Int) : isW (pack v s) := by unfold isW pack clamp; omega
theorem cval_range {w : Int} : 0 ≤ cval w ∧ cval w < 4294967296 := by unfold cval; omega
theorem cstamp_range {w : Int} (h : isW w) : 0 ≤ cstamp w ∧ cstamp w < 4294967296 := by unfold isW at h; unfold cstamp; omega
theorem cval_pack (v s : Int) : cval (pack v s) = clamp v 4294967295 := by unfold cval pack clamp; omega
theorem cstamp_pack (v s : Int) : cstamp (pack v s) = clamp s 4294967295 := by unfold cstamp pack clamp; omega
theorem wrap_i64 {n : Int} (h : -9223372036854775808 ≤ n ∧ n < 9223372036854775808) : Go.IntKind.i64.wrap n = n := by
  unfold Go.IntKind.wrap
  simp only [Go.IntKind.bits, Go.IntKind.signed, Bool.true_and, decide_eq_true_eq, Int.reducePow, Nat.reduceSub]
  split
  next h' => have h' := of_decide_eq_true h'; omega
  next h' => have h' : ¬ (n % 18446744073709551616 ≥ 9223372036854775808) := fun hh => h' (decide_eq_true hh); omega
theorem wrap_u64 {n : Int} (h : 0 ≤ n ∧ n < 18446744073709551616) : Go.IntKind.u64.wrap n = n := by
  unfold Go.IntKind.wrap
  simp only [Go.IntKind.bits, Go.IntKind.signed, Bool.false_and, Bool.false_eq_true, if_false, Int.reducePow]
  omega
end Ho
