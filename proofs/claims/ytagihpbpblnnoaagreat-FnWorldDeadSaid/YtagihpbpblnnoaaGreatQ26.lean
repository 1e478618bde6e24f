import Derived.Test.YtagihpbpblnnoaaGreatQ12
import Derived.Test.YtagihpbpblnnoaaGreatQ23
import Derived.Test.YtagihpbpblnnoaaGreatQ25
set_option linter.all false
namespace AH
open Go Go.Proofs Ho
set_option maxRecDepth 20000
set_option maxHeartbeats 16000000
theorem placeP_iff (c : Cfg) (g : Guest) : placeP c g ↔ (g.own = false ∨ (23 ≤ g.pc ∧ g.pc ≤ 25)) ∧ (¬ g.pc = 11 ∨ (g.snap.length : Int) = g.gk ∧ g.gk < house c) ∧ (¬ g.pc = 12 ∨ (g.snap.length : Int) = house c ∧ 0 ≤ g.oa ∧ g.oa < c.slots) ∧
    (¬ (16 ≤ g.pc ∧ g.pc ≤ 21) ∨ g.who < c.slots) ∧ (¬ (g.pc = 13 ∨ g.pc = 14) ∨ g.gk ≤ g.plan.length) ∧ (¬ (22 ≤ g.pc ∧ g.pc ≤ 24) ∨ 1 ≤ g.gk ∧ g.gk ≤ g.gn ∧ g.who < c.slots ∧ (g.own = false ∨ g.gn = g.plan.length)) := by
  unfold placeP
  grind
theorem house_eq (c : Cfg) : house c = 7 + 2 * c.slots + 17 * c.pages := by rfl
theorem iOk_go {c : Cfg} {g : Guest} (hok : c.ok) : guestP c g ↔ (g.busy = true ↔ g.pc ≠ 0) ∧ (g.oslot = g.slot ∨ g.busy = false) ∧
    (0 ≤ g.slot ∧ g.slot < c.slots ∧ 0 ≤ g.epoch ∧ g.epoch ≤ 4095 ∧ 0 ≤ g.next ∧ g.next ≤ 4095 ∧ 0 ≤ g.pc ∧ g.pc ≤ 26 ∧ 0 ≤ g.seq ∧ g.seq ≤ 1000001 ∧ 0 ≤ g.who ∧ g.who ≤ 7 ∧ 0 ≤ g.whoE ∧ g.whoE ≤ 4095) ∧
    (0 ≤ g.gn ∧ g.gn ≤ 20 ∧ 0 ≤ g.gk ∧ g.gk ≤ 7 + 2 * c.slots + 17 * c.pages ∧ (g.snap.length : Int) ≤ 7 + 2 * c.slots + 17 * c.pages ∧ (g.plan.length : Int) ≤ 20 ∧ 0 ≤ g.time ∧ g.time ≤ 1048575) ∧
    (g.own = false ∨ (23 ≤ g.pc ∧ g.pc ≤ 25)) ∧ (¬ g.pc = 11 ∨ (g.snap.length : Int) = g.gk ∧ g.gk < 7 + 2 * c.slots + 17 * c.pages) ∧ (¬ g.pc = 12 ∨ (g.snap.length : Int) = 7 + 2 * c.slots + 17 * c.pages ∧ 0 ≤ g.oa ∧ g.oa < c.slots) ∧
    (¬ (16 ≤ g.pc ∧ g.pc ≤ 21) ∨ g.who < c.slots) ∧ (¬ (g.pc = 13 ∨ g.pc = 14) ∨ g.gk ≤ g.plan.length) ∧ (¬ (22 ≤ g.pc ∧ g.pc ≤ 24) ∨ 1 ≤ g.gk ∧ g.gk ≤ g.gn ∧ g.who < c.slots ∧ (g.own = false ∨ g.gn = g.plan.length)) := by
  unfold guestP fieldsP
  rw [placeP_iff, house_eq]
  simp only [hok, true_and, and_assoc]
end AH
