import Derived.Test.YtagihpbpblnnoaaGreatQ05
set_option linter.all false
namespace AH
open Go Ho
/-- The slice v has these cells (elements of one cell each). -/
def Sl (σ : AHeap) (v : AV) (cs : List AV) : Prop :=
  (v = .nils ∧ cs = []) ∨ ∃ i k B, v = .sl i k cs.length 1 ∧ i < σ.n ∧ σ.get i = some B ∧ k + cs.length ≤ B.cells.length ∧ (B.cells.drop k).take cs.length = cs
def Ws (σ : AHeap) (v : AV) (ws : List Int) : Prop := Sl σ v (ws.map (.int .u64)) ∧ ∀ w ∈ ws, isW w
def Is (σ : AHeap) (v : AV) (xs : List Int) : Prop := Sl σ v (xs.map (.int .i64))
theorem Sl.keeps {σ τ : AHeap} {v : AV} {cs : List AV} (h : Sl σ v cs) (hk : Keeps σ.n σ τ) (hn : σ.n ≤ τ.n) : Sl τ v cs := by
  rcases h with h | ⟨i, k, B, h1, h2, h3, h4, h5⟩
  · exact .inl h
  · exact .inr ⟨i, k, B, h1, by omega, (hk i h2).trans h3, h4, h5⟩
theorem Ws.keeps {σ τ : AHeap} {v : AV} {ws : List Int} (h : Ws σ v ws) (hk : Keeps σ.n σ τ) (hn : σ.n ≤ τ.n) : Ws τ v ws := ⟨h.1.keeps hk hn, h.2⟩
theorem Is.keeps {σ τ : AHeap} {v : AV} {xs : List Int} (h : Is σ v xs) (hk : Keeps σ.n σ τ) (hn : σ.n ≤ τ.n) : Is τ v xs := Sl.keeps h hk hn
theorem Sl.lt {σ : AHeap} {v : AV} {cs : List AV} (h : Sl σ v cs) : v.lt σ.n = true := by
  rcases h with ⟨rfl, _⟩ | ⟨i, k, B, rfl, h2, _⟩
  · rfl
  · simp [AV.lt, h2]
theorem cell_of {B : ABlk} {k : Nat} {cs : List AV} (h4 : k + cs.length ≤ B.cells.length) (h5 : (B.cells.drop k).take cs.length = cs) (j : Nat) (hj : j < cs.length) : B.cells[k + j]? = cs[j]? := by
  rw [← h5]
  rw [List.getElem?_take, if_pos hj, List.getElem?_drop]
theorem at_mem {ws : List Int} {j : Int} (h : 0 ≤ j ∧ j < ws.length) : at_ ws j ∈ ws := by
  unfold at_
  rw [List.getD_eq_getElem?_getD, List.getElem?_eq_getElem (by omega)]
  exact List.getElem_mem _
theorem at_isW {ws : List Int} (h : ∀ w ∈ ws, isW w) (j : Int) : isW (at_ ws j) := by
  unfold at_
  rw [List.getD_eq_getElem?_getD]
  cases hj : ws[j.toNat]? with
  | none => unfold isW; simp
  | some w => exact h w (List.mem_of_getElem? hj)
/-- A slice of ints, taken apart. -/
theorem Sl.ints {σ : AHeap} {v : AV} {kk : IntKind} {ws : List Int} (h : Sl σ v (ws.map (.int kk))) :
    (v = .nils ∧ ws = []) ∨ ∃ i k B, v = .sl i k ws.length 1 ∧ i < σ.n ∧ σ.get i = some B ∧ k + ws.length ≤ B.cells.length ∧ (B.cells.drop k).take ws.length = ws.map (.int kk) ∧
      ∀ (j : Nat), j < ws.length → B.cells[k + j]? = some (.int kk (at_ ws j)) := by
  rcases h with ⟨h1, h2⟩ | ⟨i, k, B, h1, h2, h3, h4, h5⟩
  · exact .inl ⟨h1, by simpa using h2⟩
  · refine .inr ⟨i, k, B, by simpa using h1, h2, h3, by simpa using h4, by simpa using h5, fun j hj => ?_⟩
    rw [cell_of h4 h5 j (by simpa using hj)]
    simp [at_, hj]
/-- At cell k of block i there lie these numbers. -/
structure LAt (kk : IntKind) (σ : AHeap) (i k : Nat) (xs : List Int) : Prop where
  lt : i < σ.n
  ex : ∃ B, σ.get i = some B ∧ k + xs.length ≤ B.cells.length ∧ (B.cells.drop k).take xs.length = xs.map (.int kk)
theorem LAt.push {kk : IntKind} {σ : AHeap} {i k : Nat} {xs : List Int} (h : LAt kk σ i k xs) {B : ABlk} : LAt kk (σ.push B) i k xs := by
  obtain ⟨h1, B', h2, h3⟩ := h
  exact ⟨by simp; omega, B', by rw [push_get_lt h1]; exact h2, h3⟩
theorem LAt.set {kk : IntKind} {σ : AHeap} {i k j : Nat} {xs : List Int} (h : LAt kk σ i k xs) {B : ABlk} (hj : i ≠ j) : LAt kk (σ.set j B) i k xs := by
  obtain ⟨h1, B', h2, h3⟩ := h
  exact ⟨h1, B', by rw [set_get_ne hj]; exact h2, h3⟩
theorem LAt.keeps {kk : IntKind} {σ τ : AHeap} {n i k : Nat} {xs : List Int} (h : LAt kk σ i k xs) (hk : Keeps n σ τ) (hi : i < n) (hn : σ.n ≤ τ.n) : LAt kk τ i k xs := by
  obtain ⟨h1, B', h2, h3⟩ := h
  exact ⟨by omega, B', (hk i hi).trans h2, h3⟩
theorem LAt.cell {kk : IntKind} {σ : AHeap} {i k : Nat} {xs : List Int} (h : LAt kk σ i k xs) :
    ∃ B, σ.get i = some B ∧ k + xs.length ≤ B.cells.length ∧ (B.cells.drop k).take xs.length = xs.map (.int kk) ∧ ∀ (j : Nat), j < xs.length → B.cells[k + j]? = some (.int kk (at_ xs j)) := by
  obtain ⟨h1, B, h2, h3, h4⟩ := h
  refine ⟨B, h2, h3, h4, fun j hj => ?_⟩
  rw [cell_of (cs := xs.map (.int kk)) (by simpa using h3) (by simpa using h4) j (by simpa using hj)]
  simp [at_, hj]
theorem map_get {kk : IntKind} {ws : List Int} {a : Int} (h0 : 0 ≤ a) (h1 : a < ws.length) : (ws.map (AV.int kk))[a.toNat]? = some (.int kk (at_ ws a)) := by
  have : a.toNat < ws.length := by omega
  simp [at_, this]
theorem map_put {kk : IntKind} {ws : List Int} {a x : Int} (h0 : 0 ≤ a) (h1 : a < ws.length) : splice (ws.map (AV.int kk)) a.toNat [.int kk x] = (ws.set a.toNat x).map (AV.int kk) := by
  unfold splice
  have : a.toNat < ws.length := by omega
  rw [List.map_set, List.set_eq_take_append_cons_drop]
  simp [this]
theorem getElem_at (ws : List Int) (a : Int) (h : a.toNat < ws.length) : ws[a.toNat] = at_ ws a := by simp [at_, h]
theorem lt_ints {kk : IntKind} {xs : List Int} {n : Nat} {a : AV} (h : a ∈ xs.map (AV.int kk)) : a.lt n = true := by
  obtain ⟨x, _, rfl⟩ := List.mem_map.1 h; rfl
attribute [go_sem] map_get map_put getElem_at
theorem LAt.own {kk : IntKind} {σ : AHeap} {i : Nat} {xs : List Int} {rw : Bool} (hi : i < σ.n) (h : σ.get i = some ⟨xs.map (.int kk), rw⟩) : LAt kk σ i 0 xs :=
  ⟨hi, _, h, by simp, by rw [List.drop_zero, List.take_of_length_le (by simp)]⟩
theorem LAt.load {P : Program} {kk : IntKind} {σ : AHeap} {i k : Nat} {xs : List Int} (h : LAt kk σ i k xs) {t : TypeId} {n : Nat} (ht : tyAgg P t = some (false, n)) (j : Nat) (hj : j < xs.length) :
    aload P t (.ptr i (k + j)) σ = some (.int kk (at_ xs j)) := by
  obtain ⟨B, h1, _, _, h4⟩ := h.cell
  simp only [aload, h1, ht, h4 j hj]
end AH
