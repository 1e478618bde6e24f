import Derived.Test.YtagihpbpblnnoaaGreatQ21
import Derived.Test.YtagihpbpblnnoaaGreatQ22
import Derived.Test.YtagihpbpblnnoaaGreatQ20
set_option linter.all false
namespace AH
open Go Go.Proofs Ho
set_option maxRecDepth 20000
set_option maxHeartbeats 8000000
theorem ned1 (n : Nat) : (n = n + 1) = False := by simp
theorem ned2 (n : Nat) : (n = n + 1 + 1) = False := by simp only [eq_iff_iff, iff_false]; omega
theorem nee2 (n : Nat) : (n + 1 + 1 = n) = False := by simp only [eq_iff_iff, iff_false]; omega
theorem ned3 (n : Nat) : (n = n + 1 + 1 + 1) = False := by simp only [eq_iff_iff, iff_false]; omega
theorem nee3 (n : Nat) : (n + 1 + 1 + 1 = n) = False := by simp only [eq_iff_iff, iff_false]; omega
theorem ned4 (n : Nat) : (n = n + 1 + 1 + 1 + 1) = False := by simp only [eq_iff_iff, iff_false]; omega
theorem nee4 (n : Nat) : (n + 1 + 1 + 1 + 1 = n) = False := by simp only [eq_iff_iff, iff_false]; omega
theorem ned5 (n : Nat) : (n = n + 1 + 1 + 1 + 1 + 1) = False := by simp only [eq_iff_iff, iff_false]; omega
theorem nee5 (n : Nat) : (n + 1 + 1 + 1 + 1 + 1 = n) = False := by simp only [eq_iff_iff, iff_false]; omega
theorem ned6 (n : Nat) : (n = n + 1 + 1 + 1 + 1 + 1 + 1) = False := by simp only [eq_iff_iff, iff_false]; omega
theorem nee6 (n : Nat) : (n + 1 + 1 + 1 + 1 + 1 + 1 = n) = False := by simp only [eq_iff_iff, iff_false]; omega
theorem ned7 (n : Nat) : (n = n + 1 + 1 + 1 + 1 + 1 + 1 + 1) = False := by simp only [eq_iff_iff, iff_false]; omega
theorem nee7 (n : Nat) : (n + 1 + 1 + 1 + 1 + 1 + 1 + 1 = n) = False := by simp only [eq_iff_iff, iff_false]; omega
attribute [go_sem] ned1 ned2 nee2 ned3 nee3 ned4 nee4 ned5 nee5 ned6 nee6 ned7 nee7
theorem callP_reh {P : Program} {g : FuncId} {args : List AV} {σ : AHeap} {α : Type} {V : α → AV} {F : α → AHeap → Prop} (k : AV → AHeap → Prop) (h : Fn P g args σ fun x τ => ∃ a, x = V a ∧ F a τ) :
    @callP P (.fn g [] []) args σ ⟨k⟩ = @Alt (∀ (τ : AHeap) (a : α), (σ.n ≤ τ.n ∧ F a τ) → k (V a) τ) ⟨@callP P (.fn g [] []) args σ ⟨k⟩⟩ := by
  refine propext ⟨fun hh => .inr hh, fun hh => ?_⟩
  rcases hh with hh | hh
  · refine callP_use h ?_
    rintro v σ' hn ⟨a, rfl, hF⟩
    exact hh σ' a ⟨hn, hF⟩
  · exact hh
theorem LsV.frame {kk : IntKind} {σ τ : AHeap} {v : AV} {xs : List Int} (h : LsV kk σ v xs) (hn : σ.n ≤ τ.n) (hf : ∀ j, j < σ.n → τ.get j = σ.get j) : LsV kk τ v xs := by
  rcases h.ex with ⟨rfl, rfl⟩ | ⟨i, k, rfl, hl⟩
  · exact .nil
  · obtain ⟨h1, B, h2, h3⟩ := hl
    exact .mk' ⟨by omega, B, by rw [hf i h1]; exact h2, h3⟩
/-- A guest's cells. -/
abbrev gV (g : Guest) (sv pv : AV) : List AV := [.bool g.up, .int .i64 g.slot, .int .i64 g.epoch, .bool g.busy, .int .i64 g.okind, .int .i64 g.oslot, .int .i64 g.oa, .int .i64 g.ob, .int .i64 g.pc, .int .i64 g.gk, .int .i64 g.gn, .int .i64 g.seq, .int .i64 g.next, .int .i64 g.who, .int .i64 g.whoE, .bool g.own, .int .i64 g.time, .int .u64 g.was, .int .u64 g.door, .int .u64 g.beat, .int .u64 g.entry, sv, pv, .int .i64 g.code, .int .i64 g.val, .int .i64 g.count]
theorem yYield_fn (σ : AHeap) (r : Nat) (cd : Int) (j nw : Nat) (cs cp cl : Int) (up : Bool) (slot : Int) (epoch : Int) (busy : Bool) (okind : Int) (oslot : Int) (oa : Int) (ob : Int) (pc : Int) (gk : Int) (gn : Int) (seq : Int) (next : Int) (who : Int) (whoE : Int) (own : Bool) (time : Int) (was : Int) (door : Int) (beat : Int) (entry : Int) (sv : AV) (pv : AV) (code : Int) (val : Int) (count : Int) (what : Int) (hg : σ.get r = some ⟨[.sl j 0 nw 1, .int .i64 cs, .int .i64 cp, .int .i64 cl, .bool up, .int .i64 slot, .int .i64 epoch, .bool busy, .int .i64 okind, .int .i64 oslot, .int .i64 oa, .int .i64 ob, .int .i64 pc, .int .i64 gk, .int .i64 gn, .int .i64 seq, .int .i64 next, .int .i64 who, .int .i64 whoE, .bool own, .int .i64 time, .int .u64 was, .int .u64 door, .int .u64 beat, .int .u64 entry, sv, pv, .int .i64 code, .int .i64 val, .int .i64 count, .int .i64 what], true⟩) : Fn Tryz.prog 258 [.ptr r 0, .int .i64 cd] σ fun x τ => x = .tup [] ∧ τ = σ.set r ⟨[.sl j 0 nw 1, .int .i64 cs, .int .i64 cp, .int .i64 cl, .bool up, .int .i64 slot, .int .i64 epoch, .bool busy, .int .i64 okind, .int .i64 oslot, .int .i64 oa, .int .i64 ob, .int .i64 26, .int .i64 gk, .int .i64 gn, .int .i64 seq, .int .i64 next, .int .i64 who, .int .i64 whoE, .bool own, .int .i64 time, .int .u64 was, .int .u64 door, .int .u64 beat, .int .u64 entry, sv, pv, .int .i64 cd, .int .i64 val, .int .i64 count, .int .i64 what], true⟩ := by
  refine fn_mut ord0 mixed Tryz.func258 (by kernel_rfl) rfl (by kernel_rfl) ?_ ?_ ?_ ?_
  · rfl
  · rfl
  · exact mut_set hg (by simp [AV.lt])
  simp (config := {contextual := true, maxSteps := 1000000}) (disch := first | exact dA2 | fail) [go_sem, envOf, wrap_i64, int_lt, -Int.not_le, -Int.not_lt, Bool.decide_and, Bool.decide_or, and_assoc, Bool.and_assoc, Bool.or_assoc, Prod.exists, Prod.forall, hg]
@[go_sem] theorem yYield_s (σ : AHeap) (r : Nat) (cd : Int) (j nw : Nat) (cs cp cl : Int) (up : Bool) (slot : Int) (epoch : Int) (busy : Bool) (okind : Int) (oslot : Int) (oa : Int) (ob : Int) (pc : Int) (gk : Int) (gn : Int) (seq : Int) (next : Int) (who : Int) (whoE : Int) (own : Bool) (time : Int) (was : Int) (door : Int) (beat : Int) (entry : Int) (sv : AV) (pv : AV) (code : Int) (val : Int) (count : Int) (what : Int) (hg : σ.get r = some ⟨[.sl j 0 nw 1, .int .i64 cs, .int .i64 cp, .int .i64 cl, .bool up, .int .i64 slot, .int .i64 epoch, .bool busy, .int .i64 okind, .int .i64 oslot, .int .i64 oa, .int .i64 ob, .int .i64 pc, .int .i64 gk, .int .i64 gn, .int .i64 seq, .int .i64 next, .int .i64 who, .int .i64 whoE, .bool own, .int .i64 time, .int .u64 was, .int .u64 door, .int .u64 beat, .int .u64 entry, sv, pv, .int .i64 code, .int .i64 val, .int .i64 count, .int .i64 what], true⟩) (kk_ : AV → AHeap → Prop) : @callP Tryz.prog (.fn 258 [] []) [.ptr r 0, .int .i64 cd] σ ⟨kk_⟩ = @Alt (kk_ (.tup []) (σ.set r ⟨[.sl j 0 nw 1, .int .i64 cs, .int .i64 cp, .int .i64 cl, .bool up, .int .i64 slot, .int .i64 epoch, .bool busy, .int .i64 okind, .int .i64 oslot, .int .i64 oa, .int .i64 ob, .int .i64 26, .int .i64 gk, .int .i64 gn, .int .i64 seq, .int .i64 next, .int .i64 who, .int .i64 whoE, .bool own, .int .i64 time, .int .u64 was, .int .u64 door, .int .u64 beat, .int .u64 entry, sv, pv, .int .i64 cd, .int .i64 val, .int .i64 count, .int .i64 what], true⟩)) ⟨@callP Tryz.prog (.fn 258 [] []) [.ptr r 0, .int .i64 cd] σ ⟨kk_⟩⟩ := callP_alt (yYield_fn σ r cd j nw cs cp cl up slot epoch busy okind oslot oa ob pc gk gn seq next who whoE own time was door beat entry sv pv code val count what hg)
theorem yNew_fn (σ : AHeap) (slot : Int) : Fn Tryz.prog 80 [.int .i64 slot] σ fun x τ => x = .agg (gV (if 0 ≤ slot ∧ slot < 4 then { Guest.zero with up := true, slot := slot } else Guest.zero) .nils .nils) ∧ τ = σ := by
  refine fn_pure ord0 mixed Tryz.func80 (by kernel_rfl) rfl (by kernel_rfl) (by rfl) ?_
  by_cases hx : 0 ≤ slot ∧ slot < 4
  · obtain ⟨x1, x2⟩ := hx
    have x3 : ¬ 4 ≤ slot := by omega
    simp (config := {contextual := true, maxSteps := 1000000}) (disch := first | exact dA2 | fail) [go_sem, envOf, wrap_i64, int_lt, -Int.not_le, -Int.not_lt, Bool.decide_and, Bool.decide_or, and_assoc, Bool.and_assoc, Bool.or_assoc, Prod.exists, Prod.forall, Guest.zero, x1, x3]
  · have x3 : ¬ 0 ≤ slot ∨ 4 ≤ slot := by omega
    have x4 : ¬ (0 ≤ slot ∧ ¬ 4 ≤ slot) := by omega
    simp (config := {contextual := true, maxSteps := 1000000}) (disch := first | exact dA2 | fail) [go_sem, envOf, wrap_i64, int_lt, -Int.not_le, -Int.not_lt, Bool.decide_and, Bool.decide_or, and_assoc, Bool.and_assoc, Bool.or_assoc, Prod.exists, Prod.forall, Guest.zero, x3, x4]
@[go_sem] theorem yNew_s (σ : AHeap) (slot : Int) (kk_ : AV → AHeap → Prop) : @callP Tryz.prog (.fn 80 [] []) [.int .i64 slot] σ ⟨kk_⟩ = @Alt (kk_ (.agg (gV (if 0 ≤ slot ∧ slot < 4 then { Guest.zero with up := true, slot := slot } else Guest.zero) .nils .nils)) σ) ⟨@callP Tryz.prog (.fn 80 [] []) [.int .i64 slot] σ ⟨kk_⟩⟩ := callP_alt (yNew_fn σ slot)
theorem yLate_fn (σ : AHeap) (r : Nat) (c : Cfg) (sl ep : Int) (sn : List Int) (j nw : Nat) (cs cp cl : Int) (up : Bool) (slot : Int) (epoch : Int) (busy : Bool) (okind : Int) (oslot : Int) (oa : Int) (ob : Int) (pc : Int) (gk : Int) (gn : Int) (seq : Int) (next : Int) (who : Int) (whoE : Int) (own : Bool) (time : Int) (was : Int) (door : Int) (beat : Int) (entry : Int) (sv : AV) (pv : AV) (code : Int) (val : Int) (count : Int) (what : Int) (hg : σ.get r = some ⟨[.sl j 0 nw 1, .int .i64 cs, .int .i64 cp, .int .i64 cl, .bool up, .int .i64 slot, .int .i64 epoch, .bool busy, .int .i64 okind, .int .i64 oslot, .int .i64 oa, .int .i64 ob, .int .i64 pc, .int .i64 gk, .int .i64 gn, .int .i64 seq, .int .i64 next, .int .i64 who, .int .i64 whoE, .bool own, .int .i64 time, .int .u64 was, .int .u64 door, .int .u64 beat, .int .u64 entry, sv, pv, .int .i64 code, .int .i64 val, .int .i64 count, .int .i64 what], true⟩) (hc : c.slots = cs ∧ c.pages = cp ∧ c.lease = cl) (hcr : 0 ≤ cs ∧ cs ≤ 10) (hs : LsV .u64 σ sv sn) (hw : ∀ w ∈ sn, isW w) (hl : pBeat c sl < (sn.length : Int) ∧ 1 < (sn.length : Int)) : Fn Tryz.prog 267 [.ptr r 0, .int .i64 sl, .int .i64 ep] σ fun x τ => x = .bool (decide (cstamp (at_ sn (pBeat c sl)) < ep ∨ (cstamp (at_ sn (pBeat c sl)) = ep ∧ c.lease < cval (at_ sn 1) - cval (at_ sn (pBeat c sl))))) ∧ τ = σ := by
  refine fn_pure ord267 mixed Tryz.func267 (by kernel_rfl) rfl (by kernel_rfl) (by rfl) ?_
  obtain ⟨rfl, rfl, rfl⟩ := hc
  have hb : 0 ≤ pBeat c sl := by
    unfold pBeat l2At
    split
    · rename_i hh; unfold Cfg.ok at hh; omega
    · omega
  have w1 := at_isW hw (pBeat c sl)
  have w2 := at_isW hw 1
  have v1 := cval_range (w := at_ sn (pBeat c sl))
  have v2 := cval_range (w := at_ sn 1)
  simp (config := {contextual := true, maxSteps := 1000000}) (disch := first | exact dA2 | fail) [go_sem, envOf, wrap_i64, int_lt, -Int.not_le, -Int.not_lt, Bool.decide_and, Bool.decide_or, and_assoc, Bool.and_assoc, Bool.or_assoc, Prod.exists, Prod.forall, ord267, hg]
theorem yCopy_fn (σ : AHeap) (g : Guest) (sv pv : AV) (hs : LsV .u64 σ sv g.snap) (hp : LsV .u64 σ pv g.plan) (h1 : (g.snap.length : Int) ≤ 1000000) (h2 : (g.plan.length : Int) ≤ 1000000) : Fn Tryz.prog 89 [.agg (gV g sv pv)] σ fun x τ => ∃ a_ : Nat × Nat, x = .agg (gV g (.sl a_.1 0 g.snap.length 1) (.sl a_.2 0 g.plan.length 1)) ∧ ((σ.n ≤ a_.1 ∧ a_.1 < τ.n) ∧ (σ.n ≤ a_.2 ∧ a_.2 < τ.n) ∧ a_.1 ≠ a_.2 ∧ τ.get a_.1 = some ⟨g.snap.map (.int .u64), true⟩ ∧ τ.get a_.2 = some ⟨g.plan.map (.int .u64), true⟩ ∧ ∀ j, j < σ.n → τ.get j = σ.get j) := by
  refine fn_of ord0 mixed Tryz.func89 (by kernel_rfl) rfl (by kernel_rfl) ?_
  have i1 := hs.isL
  have i2 := hp.isL
  simp (config := {contextual := true, maxSteps := 1000000}) (disch := first | exact dA2 | fail) [go_sem, envOf, wrap_i64, int_lt, -Int.not_le, -Int.not_lt, Bool.decide_and, Bool.decide_or, and_assoc, Bool.and_assoc, Bool.or_assoc, Prod.exists, Prod.forall]
  all_goals omega
@[go_sem] theorem yCopy_s (σ : AHeap) (g : Guest) (sv pv : AV) (hs : LsV .u64 σ sv g.snap) (hp : LsV .u64 σ pv g.plan) (h1 : (g.snap.length : Int) ≤ 1000000) (h2 : (g.plan.length : Int) ≤ 1000000) (kk_ : AV → AHeap → Prop) : @callP Tryz.prog (.fn 89 [] []) [.agg (gV g sv pv)] σ ⟨kk_⟩ = @Alt (∀ (τ : AHeap) (a_ : Nat × Nat), (σ.n ≤ τ.n ∧ ((σ.n ≤ a_.1 ∧ a_.1 < τ.n) ∧ (σ.n ≤ a_.2 ∧ a_.2 < τ.n) ∧ a_.1 ≠ a_.2 ∧ τ.get a_.1 = some ⟨g.snap.map (.int .u64), true⟩ ∧ τ.get a_.2 = some ⟨g.plan.map (.int .u64), true⟩ ∧ ∀ j, j < σ.n → τ.get j = σ.get j)) → kk_ (.agg (gV g (.sl a_.1 0 g.snap.length 1) (.sl a_.2 0 g.plan.length 1))) τ) ⟨@callP Tryz.prog (.fn 89 [] []) [.agg (gV g sv pv)] σ ⟨kk_⟩⟩ := callP_reh (α := Nat × Nat) (V := fun a_ => .agg (gV g (.sl a_.1 0 g.snap.length 1) (.sl a_.2 0 g.plan.length 1))) (F := fun a_ τ => (σ.n ≤ a_.1 ∧ a_.1 < τ.n) ∧ (σ.n ≤ a_.2 ∧ a_.2 < τ.n) ∧ a_.1 ≠ a_.2 ∧ τ.get a_.1 = some ⟨g.snap.map (.int .u64), true⟩ ∧ τ.get a_.2 = some ⟨g.plan.map (.int .u64), true⟩ ∧ ∀ j, j < σ.n → τ.get j = σ.get j) kk_ (yCopy_fn σ g sv pv hs hp h1 h2)
end AH
/- CONTRACTS OF THE REFERENCE: what is asked of a guest. -/
namespace AH
open Go Go.Proofs Ho
set_option maxRecDepth 20000
set_option maxHeartbeats 8000000
def fieldsP (c : Cfg) (g : Guest) : Prop :=
  (0 ≤ g.slot ∧ g.slot < c.slots ∧ 0 ≤ g.epoch ∧ g.epoch ≤ 4095 ∧ 0 ≤ g.next ∧ g.next ≤ 4095 ∧ 0 ≤ g.pc ∧ g.pc ≤ 26 ∧ 0 ≤ g.seq ∧ g.seq ≤ 1000001 ∧ 0 ≤ g.who ∧ g.who ≤ 7 ∧ 0 ≤ g.whoE ∧ g.whoE ≤ 4095) ∧
  (0 ≤ g.gn ∧ g.gn ≤ 20 ∧ 0 ≤ g.gk ∧ g.gk ≤ house c ∧ (g.snap.length : Int) ≤ house c ∧ (g.plan.length : Int) ≤ 20 ∧ 0 ≤ g.time ∧ g.time ≤ 1048575)
noncomputable instance (c : Cfg) (g : Guest) : Decidable (fieldsP c g) := Classical.propDecidable _
theorem yFields_fn (σ : AHeap) (c : Cfg) (g : Guest) (sv pv : AV) (hs : LenIs sv g.snap.length) (hp : LenIs pv g.plan.length) (hc : 0 ≤ c.slots ∧ c.slots ≤ 10 ∧ 0 ≤ c.pages ∧ c.pages ≤ 10) : Fn Tryz.prog 118 [cV c.slots c.pages c.lease, .agg (gV g sv pv)] σ fun x τ => x = .bool (decide (fieldsP c g)) ∧ τ = σ := by
  refine fn_pure ord118 mixed Tryz.func118 (by kernel_rfl) rfl (by kernel_rfl) (by rfl) ?_
  simp (config := {contextual := true, maxSteps := 1000000}) (disch := first | exact dA2 | fail) [go_sem, envOf, wrap_i64, int_lt, -Int.not_le, -Int.not_lt, Bool.decide_and, Bool.decide_or, and_assoc, Bool.and_assoc, Bool.or_assoc, Prod.exists, Prod.forall, ord118]
  refine ⟨fun h hf => ?_, fun a1 a2 a3 a4 a5 a6 a7 a8 a9 a10 a11 a12 a13 a14 => Alt.mk (Alt.mk ?_)⟩
  · unfold fieldsP at hf; omega
  · rw [Bool.eq_iff_iff]
    simp only [Bool.and_eq_true, decide_eq_true_eq]
    unfold fieldsP
    constructor
    · rintro ⟨b1, b2, b3, b4, b5, b6, b7, b8⟩; exact ⟨⟨a1, by omega, a3, a4, a5, a6, a7, a8, a9, a10, a11, a12, a13, a14⟩, b1, b2, b3, b4, b5, b6, b7, b8⟩
    · rintro ⟨_, b1, b2, b3, b4, b5, b6, b7, b8⟩; exact ⟨b1, b2, b3, b4, b5, b6, b7, b8⟩
def placeP (c : Cfg) (g : Guest) : Prop :=
  if g.own = true ∧ (g.pc < 23 ∨ 25 < g.pc) then False
  else if g.pc = 11 then (g.snap.length : Int) = g.gk ∧ g.gk < house c
  else if g.pc = 12 then (g.snap.length : Int) = house c ∧ 0 ≤ g.oa ∧ g.oa < c.slots
  else if 16 ≤ g.pc ∧ g.pc ≤ 21 then g.who < c.slots
  else if g.pc = 13 ∨ g.pc = 14 then g.gk ≤ g.plan.length
  else if 22 ≤ g.pc ∧ g.pc ≤ 24 then 1 ≤ g.gk ∧ g.gk ≤ g.gn ∧ g.who < c.slots ∧ (g.own = false ∨ g.gn = g.plan.length)
  else True
noncomputable instance (c : Cfg) (g : Guest) : Decidable (placeP c g) := Classical.propDecidable _
theorem yPlace_fn (σ : AHeap) (c : Cfg) (g : Guest) (sv pv : AV) (hs : LenIs sv g.snap.length) (hp : LenIs pv g.plan.length) (hc : 0 ≤ c.slots ∧ c.slots ≤ 10 ∧ 0 ≤ c.pages ∧ c.pages ≤ 10) : Fn Tryz.prog 119 [cV c.slots c.pages c.lease, .agg (gV g sv pv)] σ fun x τ => x = .bool (decide (placeP c g)) ∧ τ = σ := by
  refine fn_pure ord119 mixed Tryz.func119 (by kernel_rfl) rfl (by kernel_rfl) (by rfl) ?_
  simp (config := {contextual := true, maxSteps := 1000000}) (disch := first | exact dA2 | fail) [go_sem, envOf, wrap_i64, int_lt, -Int.not_le, -Int.not_lt, Bool.decide_and, Bool.decide_or, and_assoc, Bool.and_assoc, Bool.or_assoc, Prod.exists, Prod.forall, ord119]
  have hd : ∀ b : Bool, (b = true ↔ placeP c g) → b = decide (placeP c g) := fun b h => by rw [Bool.eq_iff_iff, h, decide_eq_true_iff]
  repeat' (first | refine Alt.mk ?_ | refine And.intro ?_ ?_ | intro _)
  all_goals first
    | (rename_i hpl_; unfold placeP at hpl_; grind)
    | (unfold placeP; grind)
    | (refine hd _ ?_; simp only [Bool.and_eq_true, Bool.or_eq_true, Bool.not_eq_true', decide_eq_true_eq, decide_eq_false_iff_not]; unfold placeP; grind)
    | (have hh := hd (!decide (c.slots ≤ g.who)) (by simp only [Bool.not_eq_true', decide_eq_false_iff_not]; unfold placeP; grind); rw [← hh]; simp)
    | skip
theorem yFieldsV_fn (σ : AHeap) (c : Cfg) (snap plan : List Int) (up : Bool) (slot : Int) (epoch : Int) (busy : Bool) (okind : Int) (oslot : Int) (oa : Int) (ob : Int) (pc : Int) (gk : Int) (gn : Int) (seq : Int) (next : Int) (who : Int) (whoE : Int) (own : Bool) (time : Int) (was : Int) (door : Int) (beat : Int) (entry : Int) (sv : AV) (pv : AV) (code : Int) (val : Int) (count : Int) (hs : LenIs sv snap.length) (hp : LenIs pv plan.length) (hc : 0 ≤ c.slots ∧ c.slots ≤ 10 ∧ 0 ≤ c.pages ∧ c.pages ≤ 10) : Fn Tryz.prog 118 [cV c.slots c.pages c.lease, .agg [.bool up, .int .i64 slot, .int .i64 epoch, .bool busy, .int .i64 okind, .int .i64 oslot, .int .i64 oa, .int .i64 ob, .int .i64 pc, .int .i64 gk, .int .i64 gn, .int .i64 seq, .int .i64 next, .int .i64 who, .int .i64 whoE, .bool own, .int .i64 time, .int .u64 was, .int .u64 door, .int .u64 beat, .int .u64 entry, sv, pv, .int .i64 code, .int .i64 val, .int .i64 count]] σ fun x τ => x = .bool (decide (fieldsP c (Guest.mk up slot epoch busy okind oslot oa ob pc gk gn seq next who whoE own time was door beat entry snap plan code val count))) ∧ τ = σ := by
  exact yFields_fn σ c (Guest.mk up slot epoch busy okind oslot oa ob pc gk gn seq next who whoE own time was door beat entry snap plan code val count) sv pv hs hp hc
@[go_sem] theorem yFieldsV_s (σ : AHeap) (c : Cfg) (snap plan : List Int) (up : Bool) (slot : Int) (epoch : Int) (busy : Bool) (okind : Int) (oslot : Int) (oa : Int) (ob : Int) (pc : Int) (gk : Int) (gn : Int) (seq : Int) (next : Int) (who : Int) (whoE : Int) (own : Bool) (time : Int) (was : Int) (door : Int) (beat : Int) (entry : Int) (sv : AV) (pv : AV) (code : Int) (val : Int) (count : Int) (hs : LenIs sv snap.length) (hp : LenIs pv plan.length) (hc : 0 ≤ c.slots ∧ c.slots ≤ 10 ∧ 0 ≤ c.pages ∧ c.pages ≤ 10) (kk_ : AV → AHeap → Prop) : @callP Tryz.prog (.fn 118 [] []) [cV c.slots c.pages c.lease, .agg [.bool up, .int .i64 slot, .int .i64 epoch, .bool busy, .int .i64 okind, .int .i64 oslot, .int .i64 oa, .int .i64 ob, .int .i64 pc, .int .i64 gk, .int .i64 gn, .int .i64 seq, .int .i64 next, .int .i64 who, .int .i64 whoE, .bool own, .int .i64 time, .int .u64 was, .int .u64 door, .int .u64 beat, .int .u64 entry, sv, pv, .int .i64 code, .int .i64 val, .int .i64 count]] σ ⟨kk_⟩ = @Alt (kk_ (.bool (decide (fieldsP c (Guest.mk up slot epoch busy okind oslot oa ob pc gk gn seq next who whoE own time was door beat entry snap plan code val count)))) σ) ⟨@callP Tryz.prog (.fn 118 [] []) [cV c.slots c.pages c.lease, .agg [.bool up, .int .i64 slot, .int .i64 epoch, .bool busy, .int .i64 okind, .int .i64 oslot, .int .i64 oa, .int .i64 ob, .int .i64 pc, .int .i64 gk, .int .i64 gn, .int .i64 seq, .int .i64 next, .int .i64 who, .int .i64 whoE, .bool own, .int .i64 time, .int .u64 was, .int .u64 door, .int .u64 beat, .int .u64 entry, sv, pv, .int .i64 code, .int .i64 val, .int .i64 count]] σ ⟨kk_⟩⟩ := callP_alt (yFieldsV_fn σ c snap plan up slot epoch busy okind oslot oa ob pc gk gn seq next who whoE own time was door beat entry sv pv code val count hs hp hc)
theorem yPlaceV_fn (σ : AHeap) (c : Cfg) (snap plan : List Int) (up : Bool) (slot : Int) (epoch : Int) (busy : Bool) (okind : Int) (oslot : Int) (oa : Int) (ob : Int) (pc : Int) (gk : Int) (gn : Int) (seq : Int) (next : Int) (who : Int) (whoE : Int) (own : Bool) (time : Int) (was : Int) (door : Int) (beat : Int) (entry : Int) (sv : AV) (pv : AV) (code : Int) (val : Int) (count : Int) (hs : LenIs sv snap.length) (hp : LenIs pv plan.length) (hc : 0 ≤ c.slots ∧ c.slots ≤ 10 ∧ 0 ≤ c.pages ∧ c.pages ≤ 10) : Fn Tryz.prog 119 [cV c.slots c.pages c.lease, .agg [.bool up, .int .i64 slot, .int .i64 epoch, .bool busy, .int .i64 okind, .int .i64 oslot, .int .i64 oa, .int .i64 ob, .int .i64 pc, .int .i64 gk, .int .i64 gn, .int .i64 seq, .int .i64 next, .int .i64 who, .int .i64 whoE, .bool own, .int .i64 time, .int .u64 was, .int .u64 door, .int .u64 beat, .int .u64 entry, sv, pv, .int .i64 code, .int .i64 val, .int .i64 count]] σ fun x τ => x = .bool (decide (placeP c (Guest.mk up slot epoch busy okind oslot oa ob pc gk gn seq next who whoE own time was door beat entry snap plan code val count))) ∧ τ = σ := by
  exact yPlace_fn σ c (Guest.mk up slot epoch busy okind oslot oa ob pc gk gn seq next who whoE own time was door beat entry snap plan code val count) sv pv hs hp hc
@[go_sem] theorem yPlaceV_g (σ : AHeap) (b_ : Bool) (c : Cfg) (snap plan : List Int) (up : Bool) (slot : Int) (epoch : Int) (busy : Bool) (okind : Int) (oslot : Int) (oa : Int) (ob : Int) (pc : Int) (gk : Int) (gn : Int) (seq : Int) (next : Int) (who : Int) (whoE : Int) (own : Bool) (time : Int) (was : Int) (door : Int) (beat : Int) (entry : Int) (sv : AV) (pv : AV) (code : Int) (val : Int) (count : Int) (hs : b_ = true →  LenIs sv snap.length) (hp : b_ = true →  LenIs pv plan.length) (hc : b_ = true →  0 ≤ c.slots ∧ c.slots ≤ 10 ∧ 0 ≤ c.pages ∧ c.pages ≤ 10) (kk_ : AV → AHeap → Prop) : @gC Tryz.prog b_ (.fn 119 [] []) [cV c.slots c.pages c.lease, .agg [.bool up, .int .i64 slot, .int .i64 epoch, .bool busy, .int .i64 okind, .int .i64 oslot, .int .i64 oa, .int .i64 ob, .int .i64 pc, .int .i64 gk, .int .i64 gn, .int .i64 seq, .int .i64 next, .int .i64 who, .int .i64 whoE, .bool own, .int .i64 time, .int .u64 was, .int .u64 door, .int .u64 beat, .int .u64 entry, sv, pv, .int .i64 code, .int .i64 val, .int .i64 count]] σ ⟨kk_⟩ = @Alt (kk_ (gv b_ (.bool (decide (placeP c (Guest.mk up slot epoch busy okind oslot oa ob pc gk gn seq next who whoE own time was door beat entry snap plan code val count))))) σ) ⟨@gC Tryz.prog b_ (.fn 119 [] []) [cV c.slots c.pages c.lease, .agg [.bool up, .int .i64 slot, .int .i64 epoch, .bool busy, .int .i64 okind, .int .i64 oslot, .int .i64 oa, .int .i64 ob, .int .i64 pc, .int .i64 gk, .int .i64 gn, .int .i64 seq, .int .i64 next, .int .i64 who, .int .i64 whoE, .bool own, .int .i64 time, .int .u64 was, .int .u64 door, .int .u64 beat, .int .u64 entry, sv, pv, .int .i64 code, .int .i64 val, .int .i64 count]] σ ⟨kk_⟩⟩ := gC_alt b_ fun hb_ => yPlaceV_fn σ c snap plan up slot epoch busy okind oslot oa ob pc gk gn seq next who whoE own time was door beat entry sv pv code val count (hs hb_) (hp hb_) (hc hb_)
def guestP (c : Cfg) (g : Guest) : Prop := c.ok ∧ (g.busy = true ↔ g.pc ≠ 0) ∧ (g.oslot = g.slot ∨ g.busy = false) ∧ fieldsP c g ∧ placeP c g
noncomputable instance (c : Cfg) (g : Guest) : Decidable (guestP c g) := Classical.propDecidable _
theorem yOk_fn (σ : AHeap) (c : Cfg) (g : Guest) (sv pv : AV) (hs : LenIs sv g.snap.length) (hp : LenIs pv g.plan.length) (hc : 0 ≤ c.slots ∧ c.slots ≤ 10 ∧ 0 ≤ c.pages ∧ c.pages ≤ 10) : Fn Tryz.prog 52 [cV c.slots c.pages c.lease, .agg (gV g sv pv)] σ fun x τ => x = .bool (decide (guestP c g)) ∧ τ = σ := by
  refine fn_pure ord0 mixed Tryz.func52 (by kernel_rfl) rfl (by kernel_rfl) (by rfl) ?_
  by_cases hok : c.ok
  · have hok' : Cfg.ok ⟨c.slots, c.pages, c.lease⟩ := hok
    have hd : ∀ b : Bool, (b = true ↔ guestP c g) → b = decide (guestP c g) := fun b h => by rw [Bool.eq_iff_iff, h, decide_eq_true_iff]
    cases hq : g.busy with
    | false =>
      by_cases h0 : g.pc = 0
      · simp (config := {contextual := true, maxSteps := 1000000}) (disch := first | exact dA2 | fail) [go_sem, envOf, wrap_i64, int_lt, -Int.not_le, -Int.not_lt, Bool.decide_and, Bool.decide_or, and_assoc, Bool.and_assoc, Bool.or_assoc, Prod.exists, Prod.forall, hok, hok', hq, h0]
        refine Alt.mk (Alt.mk (Alt.mk (hd _ ?_)))
        have eg : (Guest.mk g.up g.slot g.epoch false g.okind g.oslot g.oa g.ob 0 g.gk g.gn g.seq g.next g.who g.whoE g.own g.time g.was g.door g.beat g.entry g.snap g.plan g.code g.val g.count) = g := by
          cases g; simp only at hq h0; subst hq h0; rfl
        rw [eg, Bool.and_eq_true, decide_eq_true_eq, decide_eq_true_eq]
        exact ⟨fun h => ⟨hok, by simp [hq, h0], .inr hq, h.1, h.2⟩, fun h => ⟨h.2.2.2.1, h.2.2.2.2⟩⟩
      · have hg : ¬ guestP c g := fun h => by have := h.2.1.2 h0; rw [hq] at this; cases this
        simp (config := {contextual := true, maxSteps := 1000000}) (disch := first | exact dA2 | fail) [go_sem, envOf, wrap_i64, int_lt, -Int.not_le, -Int.not_lt, Bool.decide_and, Bool.decide_or, and_assoc, Bool.and_assoc, Bool.or_assoc, Prod.exists, Prod.forall, hok, hok', hq, h0, hg]
    | true =>
      by_cases h0 : g.pc = 0
      · have hg : ¬ guestP c g := fun h => h.2.1.1 hq h0
        simp (config := {contextual := true, maxSteps := 1000000}) (disch := first | exact dA2 | fail) [go_sem, envOf, wrap_i64, int_lt, -Int.not_le, -Int.not_lt, Bool.decide_and, Bool.decide_or, and_assoc, Bool.and_assoc, Bool.or_assoc, Prod.exists, Prod.forall, hok, hok', hq, h0, hg]
      · simp (config := {contextual := true, maxSteps := 1000000}) (disch := first | exact dA2 | fail) [go_sem, envOf, wrap_i64, int_lt, -Int.not_le, -Int.not_lt, Bool.decide_and, Bool.decide_or, and_assoc, Bool.and_assoc, Bool.or_assoc, Prod.exists, Prod.forall, hok, hok', hq, h0]
        refine Alt.mk ⟨fun h hg => ?_, fun h => Alt.mk (Alt.mk (hd _ ?_))⟩
        · rcases hg.2.2.1 with h1 | h1
          · exact h h1
          · rw [hq] at h1; cases h1
        · have eg : (Guest.mk g.up g.slot g.epoch true g.okind g.slot g.oa g.ob g.pc g.gk g.gn g.seq g.next g.who g.whoE g.own g.time g.was g.door g.beat g.entry g.snap g.plan g.code g.val g.count) = g := by
            cases g; simp only at hq h; subst hq h; rfl
          rw [eg, Bool.and_eq_true, decide_eq_true_eq, decide_eq_true_eq]
          exact ⟨fun hh => ⟨hok, by simp [hq, h0], .inl h, hh.1, hh.2⟩, fun hh => ⟨hh.2.2.2.1, hh.2.2.2.2⟩⟩
  · have hok' : ¬ Cfg.ok ⟨c.slots, c.pages, c.lease⟩ := hok
    have hg : ¬ guestP c g := fun h => hok h.1
    simp (config := {contextual := true, maxSteps := 1000000}) (disch := first | exact dA2 | fail) [go_sem, envOf, wrap_i64, int_lt, -Int.not_le, -Int.not_lt, Bool.decide_and, Bool.decide_or, and_assoc, Bool.and_assoc, Bool.or_assoc, Prod.exists, Prod.forall, hok, hok', hg]
@[go_sem] theorem yOk_s (σ : AHeap) (c : Cfg) (g : Guest) (sv pv : AV) (hs : LenIs sv g.snap.length) (hp : LenIs pv g.plan.length) (hc : 0 ≤ c.slots ∧ c.slots ≤ 10 ∧ 0 ≤ c.pages ∧ c.pages ≤ 10) (kk_ : AV → AHeap → Prop) : @callP Tryz.prog (.fn 52 [] []) [cV c.slots c.pages c.lease, .agg (gV g sv pv)] σ ⟨kk_⟩ = @Alt (kk_ (.bool (decide (guestP c g))) σ) ⟨@callP Tryz.prog (.fn 52 [] []) [cV c.slots c.pages c.lease, .agg (gV g sv pv)] σ ⟨kk_⟩⟩ := callP_alt (yOk_fn σ c g sv pv hs hp hc)
end AH
/- CONTRACTS OF THE REFERENCE: a guest is asked. -/
namespace AH
open Go Go.Proofs Ho
set_option maxRecDepth 20000
set_option maxHeartbeats 8000000
theorem isL_sl (i k n e : Nat) : IsL (.sl i k n e) := .inr ⟨i, k, n, e, rfl⟩
theorem isL_nils : IsL .nils := .inl rfl
theorem lsv_true {kk : IntKind} {τ : AHeap} {q n : Nat} {xs : List Int} (hg : τ.get q = some ⟨xs.map (.int kk), true⟩) (hq : q < τ.n) (hn : xs.length = n) : LsV kk τ (.sl q 0 n 1) xs ↔ True := ⟨fun _ => trivial, fun _ => lsv_at hq hg hn⟩
theorem lsv_nil (kk : IntKind) (τ : AHeap) : LsV kk τ .nils [] ↔ True := ⟨fun _ => trivial, fun _ => .nil⟩
theorem bOf_sl (i k n e : Nat) : bOf (.sl i k n e) = i := _root_.id rfl
attribute [go_sem] lsv_true lsv_nil bOf_sl
def Guest.asked (g : Ho.Guest) (kind a b : Int) : Ho.Guest :=
  if g.up = false ∨ g.busy = true ∨ 1000000 ≤ g.count then g
  else
    let g1 : Ho.Guest := { g with okind := kind, oslot := g.slot, oa := a, ob := b }
    if kind < 1 ∨ 6 < kind then g1.complete 13 0
    else if kind = 1 ∧ 0 < g.epoch then g1.complete 6 0
    else if kind ≠ 1 ∧ g.epoch = 0 then g1.complete 9 0
    else { g1 with busy := true, pc := if kind = 1 then 4 else 1 }
theorem yAsk_fn (σ : AHeap) (g : Guest) (sv pv : AV) (kind sl a b : Int) (hs : LsV .u64 σ sv g.snap) (hp : LsV .u64 σ pv g.plan) (h1 : (g.snap.length : Int) ≤ 1000000) (h2 : (g.plan.length : Int) ≤ 1000000) (hc : 0 ≤ g.count ∧ g.count ≤ 10000000) : Fn Tryz.prog 146 [.agg (gV g sv pv), .agg [.int .i64 kind, .int .i64 sl, .int .i64 a, .int .i64 b]] σ fun x τ => ∃ a_ : AV × AV, x = .agg (gV (Guest.asked g kind a b) a_.1 a_.2) ∧ (LsV .u64 τ a_.1 (Guest.asked g kind a b).snap ∧ LsV .u64 τ a_.2 (Guest.asked g kind a b).plan ∧ (∀ j, j < σ.n → τ.get j = σ.get j) ∧ (σ.n ≤ bOf a_.1 ∨ a_.1 = .nils) ∧ (σ.n ≤ bOf a_.2 ∨ a_.2 = .nils) ∧ (bOf a_.1 ≠ bOf a_.2 ∨ a_.1 = .nils)) := by
  refine fn_of ord0 mixed Tryz.func146 (by kernel_rfl) rfl (by kernel_rfl) ?_
  have i1 := hs.isL
  have i2 := hp.isL
  simp (config := {contextual := true, maxSteps := 1000000}) (disch := first | exact dA2 | fail) [go_sem, envOf, wrap_i64, int_lt, -Int.not_le, -Int.not_lt, Bool.decide_and, Bool.decide_or, and_assoc, Bool.and_assoc, Bool.or_assoc, Prod.exists, Prod.forall, Guest.asked, Guest.complete, Guest.zero]
  repeat' (first | refine Alt.mk ?_ | refine And.intro ?_ ?_ | intro _)
  all_goals first | omega | (rename_i j_ hj_; simp only [show ¬ j_ = σ.n + 1 + 1 by omega, show ¬ j_ = σ.n + 1 by omega, show ¬ j_ = σ.n by omega, if_false])
@[go_sem] theorem yAsk_s (σ : AHeap) (g : Guest) (sv pv : AV) (kind sl a b : Int) (hs : LsV .u64 σ sv g.snap) (hp : LsV .u64 σ pv g.plan) (h1 : (g.snap.length : Int) ≤ 1000000) (h2 : (g.plan.length : Int) ≤ 1000000) (hc : 0 ≤ g.count ∧ g.count ≤ 10000000) (kk_ : AV → AHeap → Prop) : @callP Tryz.prog (.fn 146 [] []) [.agg (gV g sv pv), .agg [.int .i64 kind, .int .i64 sl, .int .i64 a, .int .i64 b]] σ ⟨kk_⟩ = @Alt (∀ (τ : AHeap) (a_ : AV × AV), (σ.n ≤ τ.n ∧ (LsV .u64 τ a_.1 (Guest.asked g kind a b).snap ∧ LsV .u64 τ a_.2 (Guest.asked g kind a b).plan ∧ (∀ j, j < σ.n → τ.get j = σ.get j) ∧ (σ.n ≤ bOf a_.1 ∨ a_.1 = .nils) ∧ (σ.n ≤ bOf a_.2 ∨ a_.2 = .nils) ∧ (bOf a_.1 ≠ bOf a_.2 ∨ a_.1 = .nils))) → kk_ (.agg (gV (Guest.asked g kind a b) a_.1 a_.2)) τ) ⟨@callP Tryz.prog (.fn 146 [] []) [.agg (gV g sv pv), .agg [.int .i64 kind, .int .i64 sl, .int .i64 a, .int .i64 b]] σ ⟨kk_⟩⟩ := callP_reh (α := AV × AV) (V := fun a_ => .agg (gV (Guest.asked g kind a b) a_.1 a_.2)) (F := fun a_ τ => LsV .u64 τ a_.1 (Guest.asked g kind a b).snap ∧ LsV .u64 τ a_.2 (Guest.asked g kind a b).plan ∧ (∀ j, j < σ.n → τ.get j = σ.get j) ∧ (σ.n ≤ bOf a_.1 ∨ a_.1 = .nils) ∧ (σ.n ≤ bOf a_.2 ∨ a_.2 = .nils) ∧ (bOf a_.1 ≠ bOf a_.2 ∨ a_.1 = .nils)) kk_ (yAsk_fn σ g sv pv kind sl a b hs hp h1 h2 hc)
end AH
/- CONTRACTS: the guests of a world, as they lie. -/
namespace AH
open Go Go.Proofs Ho
set_option maxRecDepth 20000
set_option maxHeartbeats 8000000
/-- The cells of guests, one behind the other. -/
def gCells : List (Guest × AV × AV) → List AV
  | [] => []
  | x :: gs => gV x.1 x.2.1 x.2.2 ++ gCells gs
theorem gV_len (g : Guest) (sv pv : AV) : (gV g sv pv).length = 26 := rfl
theorem gCells_len (gs : List (Guest × AV × AV)) : (gCells gs).length = gs.length * 26 := by
  induction gs with
  | nil => rfl
  | cons x gs ih =>
    show (gV x.1 x.2.1 x.2.2 ++ gCells gs).length = (gs.length + 1) * 26
    rw [List.length_append, ih]
    show 26 + gs.length * 26 = _
    omega
theorem gCells_sub {gs : List (Guest × AV × AV)} {i : Nat} {x : Guest × AV × AV} (h : gs[i]? = some x) : ((gCells gs).drop (i * 26)).take 26 = gV x.1 x.2.1 x.2.2 := by
  induction gs generalizing i with
  | nil => simp at h
  | cons y gs ih =>
    cases i with
    | zero =>
      simp at h; subst h
      simp only [gCells, Nat.zero_mul, List.drop_zero]
      rw [List.take_append_of_le_length (by simp)]
      rfl
    | succ i =>
      simp only [gCells]
      rw [List.drop_append, show (i + 1) * 26 - (gV y.1 y.2.1 y.2.2).length = i * 26 by rw [gV_len]; omega, List.drop_eq_nil_of_le (by rw [gV_len]; omega), List.nil_append]
      exact ih (by simpa using h)
theorem gCells_put {gs : List (Guest × AV × AV)} {i : Nat} (h : i < gs.length) (g : Guest) (sv pv : AV) : splice (gCells gs) (i * 26) (gV g sv pv) = gCells (gs.set i (g, sv, pv)) := by
  induction gs generalizing i with
  | nil => simp at h
  | cons y gs ih =>
    cases i with
    | zero =>
      unfold splice
      simp only [gCells, Nat.zero_mul, List.take_zero, List.nil_append, Nat.zero_add, List.set_cons_zero]
      rw [List.drop_append, List.drop_eq_nil_of_le (by rw [gV_len, gV_len]; exact Nat.le_refl _), List.nil_append, gV_len, gV_len]
      rfl
    | succ i =>
      have := ih (i := i) (by simpa using h)
      simp only [gCells, List.set_cons_succ]
      rw [← this]
      unfold splice
      rw [List.take_append, List.drop_append, gV_len, gV_len, List.take_of_length_le (by rw [gV_len]; omega), List.drop_eq_nil_of_le (by rw [gV_len]; omega)]
      rw [show (i + 1) * 26 - 26 = i * 26 by omega, show (i + 1) * 26 + 26 - 26 = i * 26 + 26 by omega]
      simp only [List.append_assoc, List.nil_append]
theorem gCells_snoc (gs : List (Guest × AV × AV)) (g : Guest) (sv pv : AV) : gCells gs ++ gV g sv pv = gCells (gs ++ [(g, sv, pv)]) := by
  induction gs with
  | nil => simp [gCells]
  | cons y gs ih => simp only [gCells, List.cons_append, List.append_assoc, ih]
theorem gCells_one (gs : List (Guest × AV × AV)) (h : ∀ x ∈ gs, IsL x.2.1 ∧ IsL x.2.2) : (gCells gs).all AV.one = true := by
  induction gs with
  | nil => rfl
  | cons y gs ih =>
    have h1 := h y (by simp)
    simp only [gCells, List.all_append, Bool.and_eq_true]
    refine ⟨?_, ih fun x hx => h x (by simp [hx])⟩
    have k1 := one_isL h1.1
    have k2 := one_isL h1.2
    simp only [gV, List.all_cons, List.all_nil, k1, k2]
    rfl
end AH
