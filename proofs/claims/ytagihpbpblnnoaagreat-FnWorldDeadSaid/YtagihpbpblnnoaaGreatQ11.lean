import Derived.Test.YtagihpbpblnnoaaGreatQ03
import Derived.Test.YtagihpbpblnnoaaGreatQ09
import Derived.Test.YtagihpbpblnnoaaGreatQ08
import Derived.Test.YtagihpbpblnnoaaGreatQ10
import Derived.Test.YtagihpbpblnnoaaGreatQ06
import Derived.Test.YtagihpbpblnnoaaGreatQ02
import Derived.Carry
import Derived.Below
import Derived.SizedLaws
set_option linter.all false
namespace AH
open Go Ho
def bOf : AV → Nat
  | .sl i _ _ _ => i
  | _ => 0
def kOf : AV → Nat
  | .sl _ k _ _ => k
  | _ => 0
/-- The slice v has these numbers. -/
structure LsV (kk : IntKind) (σ : AHeap) (v : AV) (xs : List Int) : Prop where
  ex : (v = .nils ∧ xs = []) ∨ ∃ i k, v = .sl i k xs.length 1 ∧ LAt kk σ i k xs
theorem LsV.nil {kk : IntKind} {σ : AHeap} : LsV kk σ .nils [] := ⟨.inl ⟨rfl, rfl⟩⟩
theorem LsV.mk' {kk : IntKind} {σ : AHeap} {i k : Nat} {xs : List Int} (h : LAt kk σ i k xs) : LsV kk σ (.sl i k xs.length 1) xs := ⟨.inr ⟨i, k, rfl, h⟩⟩
theorem LsV.own {kk : IntKind} {σ : AHeap} {i : Nat} {xs : List Int} {rw : Bool} (hi : i < σ.n) (h : σ.get i = some ⟨xs.map (.int kk), rw⟩) : LsV kk σ (.sl i 0 xs.length 1) xs := LsV.mk' (LAt.own hi h)
theorem LsV.lt {kk : IntKind} {σ : AHeap} {v : AV} {xs : List Int} (h : LsV kk σ v xs) : v.lt σ.n = true := by
  rcases h.ex with ⟨rfl, _⟩ | ⟨i, k, rfl, hl⟩
  · rfl
  · simp [AV.lt, hl.lt]
theorem LsV.push {kk : IntKind} {σ : AHeap} {v : AV} {xs : List Int} (h : LsV kk σ v xs) {B : ABlk} : LsV kk (σ.push B) v xs := by
  rcases h.ex with ⟨rfl, rfl⟩ | ⟨i, k, rfl, hl⟩
  · exact .nil
  · exact .mk' hl.push
theorem LsV.set {kk : IntKind} {σ : AHeap} {v : AV} {xs : List Int} {j : Nat} (h : LsV kk σ v xs) {B : ABlk} (hj : bOf v ≠ j ∨ v = .nils) : LsV kk (σ.set j B) v xs := by
  rcases h.ex with ⟨rfl, rfl⟩ | ⟨i, k, rfl, hl⟩
  · exact .nil
  · refine .mk' (hl.set ?_)
    rcases hj with hj | hj
    · exact hj
    · cases hj
theorem LsV.keeps {kk : IntKind} {σ τ : AHeap} {n : Nat} {v : AV} {xs : List Int} (h : LsV kk σ v xs) (hk : Keeps n σ τ) (hi : v.lt n = true) (hn : σ.n ≤ τ.n) : LsV kk τ v xs := by
  rcases h.ex with ⟨rfl, rfl⟩ | ⟨i, k, rfl, hl⟩
  · exact .nil
  · refine .mk' (hl.keeps hk ?_ hn)
    simpa [AV.lt] using hi
def lenO (d : Option TypeDesc) (v : AV) (σ : AHeap) : Option (AV × AHeap) :=
  match d, alen v, v with
  | some (.slice _), some n, .sl .. => some (.int .i64 n, σ)
  | some (.slice _), some n, .nils => some (.int .i64 n, σ)
  | some .string, some n, .str _ => some (.int .i64 n, σ)
  | _, _, _ => none
theorem aop_len {P : Program} {ρ : Operand → AV} {σ : AHeap} (x : Operand) (t : TypeId) : aop P ρ (.call ⟨.builtin .len, #[x], #[t]⟩) σ = lenO (P.underlying t) (ρ x) σ := _root_.id rfl
theorem lenO_sl (e : TypeId) (i k n q : Nat) (σ : AHeap) : lenO (some (.slice e)) (.sl i k n q) σ = some (.int .i64 n, σ) := _root_.id rfl
theorem lenO_nils (e : TypeId) (σ : AHeap) : lenO (some (.slice e)) .nils σ = some (.int .i64 0, σ) := _root_.id rfl
theorem lenO_ls {e : TypeId} {v : AV} {σ : AHeap} {kk : IntKind} {xs : List Int} (h : LsV kk σ v xs) : lenO (some (.slice e)) v σ = some (.int .i64 xs.length, σ) := by
  rcases h.ex with ⟨rfl, rfl⟩ | ⟨i, k, rfl, hl⟩ <;> rfl
def idxO (P : Program) (t : TypeId) (v ix : AV) (σ : AHeap) : Option (AV × AHeap) :=
  match ix with
  | .int _ i => match v with
    | .sl b k n e => match tySlice P t with
      | some (e', _) => if e = e' ∧ 0 ≤ i ∧ i < n then some (.ptr b (k + i.toNat * e), σ) else none
      | none => none
    | .ptr b k => match tyArr P t with
      | some (n, e) => if 0 ≤ i ∧ i < n then some (.ptr b (k + i.toNat * e), σ) else none
      | none => none
    | _ => none
  | _ => none
theorem aop_indexAddr {P : Program} {ρ : Operand → AV} {σ : AHeap} (t : TypeId) (x ix : Operand) : aop P ρ (.indexAddr t x ix) σ = idxO P t (ρ x) (ρ ix) σ := _root_.id rfl
theorem idxO_sl {P : Program} (t : TypeId) (b k n e : Nat) (kk : IntKind) (i : Int) (σ : AHeap) : idxO P t (.sl b k n e) (.int kk i) σ = (match tySlice P t with
      | some (e', _) => if e = e' ∧ 0 ≤ i ∧ i < n then some (.ptr b (k + i.toNat * e), σ) else none
      | none => none) := _root_.id rfl
theorem idxO_ptr {P : Program} (t : TypeId) (b k : Nat) (kk : IntKind) (i : Int) (σ : AHeap) : idxO P t (.ptr b k) (.int kk i) σ = (match tyArr P t with
      | some (n, e) => if 0 ≤ i ∧ i < n then some (.ptr b (k + i.toNat * e), σ) else none
      | none => none) := _root_.id rfl
/-- The address of an element: opaque till it is read. -/
def elAt (v : AV) (i : Int) : AV := .ptr (bOf v) (kOf v + i.toNat)
def idxL (s : Option (Nat × Nat × List AV)) (v : AV) (i : Int) (σ : AHeap) : Option (AV × AHeap) :=
  match s with
  | some (1, _) => some (elAt v i, σ)
  | _ => none
theorem idxL_some (a : Nat) (b : List AV) (v : AV) (i : Int) (σ : AHeap) : idxL (some (1, a, b)) v i σ = some (elAt v i, σ) := _root_.id rfl
theorem idxO_ls {P : Program} {t : TypeId} {v : AV} {σ : AHeap} {k' kk : IntKind} {i : Int} {xs : List Int} (h : LsV kk σ v xs) (h0 : 0 ≤ i) (h1 : i < xs.length) : idxO P t v (.int k' i) σ = idxL (tySlice P t) v i σ := by
  rcases h.ex with ⟨rfl, rfl⟩ | ⟨j, k, rfl, hl⟩
  · simp at h1; omega
  · rw [idxO_sl]
    unfold idxL
    cases hs : tySlice P t with
    | none => rfl
    | some s =>
      obtain ⟨e, by', z⟩ := s
      dsimp only
      by_cases he : e = 1
      · subst he
        rw [if_pos ⟨rfl, h0, h1⟩]
        simp [elAt, bOf, kOf]
      · rw [if_neg (by omega)]
        split
        · rename_i h2; cases h2; exact absurd rfl he
        · rfl
def ldI (g : Option (Bool × Nat)) (v : AV) [a : Kt (Option AV)] : Option AV :=
  match g with
  | some (false, _) => some v
  | _ => a.val
theorem ldI_some (n : Nat) (v : AV) (a : Option AV) : @ldI (some (false, n)) v ⟨a⟩ = some v := _root_.id rfl
theorem load_ls {P : Program} {t : TypeId} {v : AV} {σ : AHeap} {kk : IntKind} {i : Int} {xs : List Int} (h : LsV kk σ v xs) (h0 : 0 ≤ i) (h1 : i < xs.length) :
    aload P t (elAt v i) σ = @ldI (tyAgg P t) (.int kk (at_ xs i)) ⟨aload P t (elAt v i) σ⟩ := by
  rcases h.ex with ⟨rfl, rfl⟩ | ⟨j, k, rfl, hl⟩
  · simp at h1; omega
  · obtain ⟨B, b1, _, _, b4⟩ := hl.cell
    have := b4 i.toNat (by omega)
    rw [show ((i.toNat : Nat) : Int) = i by omega] at this
    unfold ldI
    split
    · rename_i hg
      simp only [elAt, bOf, kOf, aload, b1, hg, this]
    · rfl
attribute [go_sem ↓] aop_len aop_indexAddr
attribute [go_sem] lenO_sl lenO_nils lenO_ls idxO_ls idxO_sl idxO_ptr idxL_some ldI_some load_ls acond_bool agated_some
def eqB (d : Option TypeDesc) (a b : Bool) : Option AV :=
  match d with
  | some .bool => some (.bool (a == b))
  | _ => none
theorem abin_eqlb {P : Program} (t : TypeId) (a b : Bool) : abin P .eql t (.bool a) (.bool b) = eqB (P.underlying t) a b := by
  simp only [abin, aeq0, eqB]
  generalize P.underlying t = d
  cases d with
  | none => rfl
  | some d => cases d <;> rfl
theorem abin_neqb {P : Program} (t : TypeId) (a b : Bool) : abin P .neq t (.bool a) (.bool b) = eqB (P.underlying t) (!a) b := by
  simp only [abin, aeq0, eqB]
  generalize P.underlying t = d
  cases d with
  | none => rfl
  | some d => cases d <;> cases a <;> cases b <;> rfl
theorem eqB_bool (a b : Bool) : eqB (some .bool) a b = some (.bool (a == b)) := _root_.id rfl
attribute [go_sem] abin_eqlb abin_neqb eqB_bool
/-- A slice. -/
def IsL (v : AV) : Prop := v = .nils ∨ ∃ i k n e, v = .sl i k n e
theorem LsV.isL {kk : IntKind} {σ : AHeap} {v : AV} {xs : List Int} (h : LsV kk σ v xs) : IsL v := by
  rcases h.ex with ⟨rfl, rfl⟩ | ⟨i, k, rfl, hl⟩
  · exact .inl rfl
  · exact .inr ⟨_, _, _, _, rfl⟩
theorem cells_isL {v : AV} (h : IsL v) : v.cells = some [v] := by rcases h with rfl | ⟨i, k, n, e, rfl⟩ <;> rfl
theorem one_isL {v : AV} (h : IsL v) : v.one = true := by rcases h with rfl | ⟨i, k, n, e, rfl⟩ <;> rfl
attribute [go_sem ↓ high] cells_isL one_isL
theorem aslice_hi (e i k n : Nat) (kk : IntKind) (h : Int) (h0 : 0 ≤ h) (h1 : h ≤ n) : aslice e (.sl i k n e) none (some (.int kk h)) = some (.sl i k h.toNat e) := by
  simp only [aslice, abound]; rw [if_pos ⟨trivial, by omega, h0, h1⟩]; simp
theorem aslice_lo (e i k n : Nat) (kk : IntKind) (l : Int) (h0 : 0 ≤ l) (h1 : l ≤ n) : aslice e (.sl i k n e) (some (.int kk l)) none = some (.sl i (k + l.toNat * e) (n - l.toNat) e) := by
  simp only [aslice, abound]; rw [if_pos ⟨trivial, h0, h1, by omega⟩]; simp
theorem aslice_lh (e i k n : Nat) (kk kk' : IntKind) (l h : Int) (h0 : 0 ≤ l) (h1 : l ≤ h) (h2 : h ≤ n) : aslice e (.sl i k n e) (some (.int kk l)) (some (.int kk' h)) = some (.sl i (k + l.toNat * e) (h.toNat - l.toNat) e) := by
  simp only [aslice, abound]; rw [if_pos ⟨trivial, h0, h1, h2⟩]
attribute [go_sem] aslice_hi aslice_lo aslice_lh
theorem LsV.take {kk : IntKind} {σ : AHeap} {i k : Nat} {xs : List Int} (h : LsV kk σ (.sl i k xs.length 1) xs) (m : Nat) (hm : m ≤ xs.length) : LsV kk σ (.sl i k m 1) (xs.take m) := by
  rcases h.ex with ⟨h, _⟩ | ⟨i', k', h', hl⟩
  · cases h
  · cases h'
    obtain ⟨h1, B, h2, h3, h4⟩ := hl
    have := LsV.mk' (kk := kk) (σ := σ) (i := i) (k := k) (xs := xs.take m) ⟨h1, B, h2, by simp; omega, by
      rw [List.length_take, Nat.min_eq_left hm, ← Nat.min_eq_left hm, ← List.take_take, h4, Nat.min_eq_left hm, List.map_take]⟩
    rwa [List.length_take, Nat.min_eq_left hm] at this
/-- The rule of a loop, its measure told of the state. -/
theorem aloops_lt {P : Program} {ord : Nat → DOrd} {c : Code} {K : Exit → Env → AHeap → Prop} {env : Env} {σ : AHeap} (I : (Nat → Prop) → Env → AHeap → Prop)
    (hk : ∀ R env τ, I R env τ → ∃ k, R k ∧ I (fun x => x = k) env τ) (h0 : I (fun _ => True) env σ)
    (h : ∀ M env τ, I (fun x => x = M) env τ → wpc P ord c (athen (fun env' τ' => I (fun x => x < M) env' τ') K) env τ) : @aloops ⟨wpc P ord c⟩ ⟨K⟩ env σ := by
  obtain ⟨k, _, h1⟩ := hk _ _ _ h0
  refine aloops_wpc (fun m env τ => I (fun x => x = m) env τ) k h1 fun m env τ hI => wpc_mono ?_ (h m env τ hI)
  intro e env' τ' he
  cases e with
  | normal =>
    obtain ⟨k', hlt, hI'⟩ := hk _ _ _ he
    exact ⟨k', hlt, hI'⟩
  | _ => exact he
theorem int_lt (a b : Int) : (a < b) = ¬ (b ≤ a) := by rw [Int.not_le]
theorem nat_lt (a b : Nat) : (a < b) = ¬ (b ≤ a) := by rw [Nat.not_le]
theorem ok_dec (s p l : Int) : decide (Cfg.ok ⟨s, p, l⟩) = (decide (1 ≤ s) && (decide (s ≤ 4) && (decide (1 ≤ p) && (decide (p ≤ 6) && (decide (1 ≤ l) && decide (l ≤ 20)))))) := by
  rw [Bool.eq_iff_iff, decide_eq_true_iff]; simp [Cfg.ok]
theorem decide_beq_false (p : Prop) [Decidable p] : (decide p == false) = decide (¬ p) := by by_cases h : p <;> simp [h]
theorem decide_beq_true (p : Prop) [Decidable p] : (decide p == true) = decide p := by by_cases h : p <;> simp [h]
attribute [go_sem] decide_beq_false decide_beq_true
end AH
/- FROM THE ABSTRACT MACHINE TO A ROW: slices of bytes come in, true comes out. -/
namespace AH
open Go Go.RowKit
/-- A slice of bytes that comes in, as block i. -/
structure ArgR (w : World) (u : Value) (i : Nat) (av : AV) (l : List Int) (m : Option Loc) : Prop where
  vr : ∀ μ : Mu, μ i = m → VR μ av u
  blk : ∀ (μ : Mu) (loc : Loc), m = some loc → BlkR μ w ⟨l.map (.int .u8), false⟩ loc
  av : (av = .nils ∧ l = []) ∨ av = .sl i 0 l.length 1
  rng : ∀ x ∈ l, 0 ≤ x ∧ x ≤ 255
theorem argR_of {P : Program} {w : World} {base : Nat} {t e : TypeId} {a : Option Addr} {len cap : Nat} {zs : List Int} (i : Nat) (ht : P.underlying t = some (.slice e)) (h : Value.okWide P w .any base t (.slice a len cap))
    (hr : (a = none ∧ len = 0 ∧ cap = 0 ∧ zs = []) ∨ ∃ x, a = some x ∧ len ≤ cap ∧ cap ≤ maxLen ∧ zs.length = cap ∧ (∀ i, i < zs.length → w.cell? (x.add i) = some (.int .u8 (zs.getD i 0))) ∧ ∀ n ∈ zs, (Lit.int .u8 n).wf = true) :
    ∃ (av : AV) (l : List Int) (m : Option Loc), ArgR w (.slice a len cap) i av l m ∧ l.length = len := by
  rcases hr with ⟨rfl, rfl, rfl, rfl⟩ | ⟨x, rfl, hl, hm, hz, hc, hw⟩
  · exact ⟨.nils, [], none, ⟨fun μ _ => .nils, fun μ loc h => (by cases h), .inl ⟨rfl, rfl⟩, fun x hx => (by cases hx)⟩, rfl⟩
  · have hs : x.spot = none ∧ ∃ row cells, w.shape? x.block = some (row, cells) := by
      simp only [Value.okWide, ht, Cell.okWide, Cell.ok] at h
      obtain ⟨_, _, _, h1, row, cells, h2, _⟩ := h
      exact ⟨h1, row, cells, h2⟩
    obtain ⟨b, o, s⟩ := x
    obtain ⟨hs, row, cells, hsh⟩ := hs
    simp only at hs hsh
    subst hs
    have hx : ∃ arr el fr, w.heap[b]? = some (.cells arr el fr) := by
      unfold World.shape? at hsh
      split at hsh
      · rename_i arr el fr hh
        exact ⟨arr, el, fr, hh⟩
      · cases hsh
    obtain ⟨arr, el, fr, hh⟩ := hx
    have hcell : ∀ j, j < cap → arr[o + j]? = some (.int .u8 (zs.getD j 0)) := by
      intro j hj
      have := hc j (by omega)
      have ea : (Addr.add ⟨b, o, none⟩ j) = ⟨b, o + j, none⟩ := by
        unfold Addr.add
        split
        · rename_i h0; subst h0; rfl
        · rfl
      rw [ea] at this
      simp only [World.cell?, hh] at this
      simpa using this
    have hwf : ∀ n ∈ zs, 0 ≤ n ∧ n ≤ 255 := by
      intro n hn
      have := hw n hn
      simp [Lit.wf] at this
      have h1 : (IntKind.u8).min = 0 := by decide
      have h2 : (IntKind.u8).max = 255 := by decide
      omega
    have hlen : (zs.take len).length = len := by simp; omega
    refine ⟨.sl i 0 len 1, zs.take len, some ⟨b, if cap = 0 then 0 else o, cap⟩, ⟨?_, ?_, .inr (by rw [hlen]), fun x hx => hwf x (List.mem_of_mem_take hx)⟩, hlen⟩
    · intro μ hμ
      refine .sl i 0 len 1 cap ⟨b, if cap = 0 then 0 else o, cap⟩ o hμ hl ?_
      by_cases h0 : cap = 0
      · exact .inr h0
      · left
        simp only [if_neg h0]
        omega
    · intro μ loc hm'
      cases hm'
      refine ⟨arr, el, fr, hh, ?_, ?_, fun h => (by cases h), ?_⟩
      · dsimp only
        by_cases h0 : cap = 0
        · rw [if_pos h0]; omega
        · rw [if_neg h0]
          have := hcell (cap - 1) (by omega)
          have := (Array.getElem?_eq_some_iff.1 this).1
          omega
      · simp; omega
      · intro j v hv
        simp only [List.getElem?_map, Option.map_eq_some_iff] at hv
        obtain ⟨n, hn, rfl⟩ := hv
        have hj : j < len := by
          have := (List.getElem?_eq_some_iff.1 hn).1
          omega
        have h0 : ¬ cap = 0 := by omega
        dsimp only
        rw [if_neg h0]
        refine ⟨_, hcell j (by omega), ?_⟩
        rw [List.getElem?_take, if_pos hj] at hn
        rw [List.getD_eq_getElem?_getD, hn]
        exact .int _ _
theorem ArgR.ls {w : World} {u : Value} {i : Nat} {av : AV} {l : List Int} {m : Option Loc} (h : ArgR w u i av l m) {σ : AHeap} (hi : i < σ.n) (hg : σ.get i = some ⟨l.map (.int .u8), false⟩) : LsV .u8 σ av l := by
  rcases h.av with ⟨rfl, rfl⟩ | rfl
  · exact .nil
  · exact LsV.own hi hg
theorem below_of_step {μ μ' : Mu} {σ σ' : AHeap} {w w' : World} (h : Step μ σ w μ' σ' w') (hro : ∀ i B, σ.get i = some B → B.rw = false) : Below w.heap.size w w' := by
  refine ⟨h.os, h.tape, h.output, h.size, fun k hk => ?_⟩
  have hT : ∀ b o, ¬ Terr μ σ b o := by
    rintro b o ⟨i, B, l, h1, h2, _⟩
    rw [hro i B h1] at h2
    cases h2
  cases hb : w.heap[k]? with
  | none => rw [Array.getElem?_eq_none_iff] at hb; omega
  | some ob =>
    by_cases hc : ∃ arr el fr, ob = .cells arr el fr
    · obtain ⟨arr, el, fr, rfl⟩ := hc
      obtain ⟨arr', h1, h2, h3⟩ := h.cells k arr el fr hb
      rw [h1]
      congr 2
      exact Array.ext_getElem? fun i => h3 i (hT k i)
    · exact h.other k ob hb fun arr el fr he => hc ⟨arr, el, fr, he⟩
/-- The memory in which two slices of bytes lie. -/
def σ2 (l0 l1 : List Int) : AHeap := ⟨2, fun y => if y = 0 then some ⟨l0.map (.int .u8), false⟩ else if y = 1 then some ⟨l1.map (.int .u8), false⟩ else none⟩
theorem σ2_ro (l0 l1 : List Int) : ∀ i B, (σ2 l0 l1).get i = some B → B.rw = false := by
  intro i B h
  unfold σ2 at h
  simp only at h
  split at h
  · cases h; rfl
  · split at h
    · cases h; rfl
    · cases h
theorem rel2 {w : World} {u0 u1 : Value} {a0 a1 : AV} {l0 l1 : List Int} {m0 m1 : Option Loc} (h0 : ArgR w u0 0 a0 l0 m0) (h1 : ArgR w u1 1 a1 l1 m1) : Rel (fun y => if y = 0 then m0 else if y = 1 then m1 else none) (σ2 l0 l1) w := by
  refine ⟨?_, ?_, ?_⟩
  · intro i l h
    show i < 2
    rcases Nat.lt_or_ge i 2 with h' | h'
    · exact h'
    · simp only [show ¬ i = 0 by omega, show ¬ i = 1 by omega, if_false] at h
      cases h
  · intro i B l hB hm
    unfold σ2 at hB
    simp only at hB hm
    by_cases e0 : i = 0
    · rw [if_pos e0] at hB hm; cases hB; exact h0.blk _ l hm
    · rw [if_neg e0] at hB hm
      by_cases e1 : i = 1
      · rw [if_pos e1] at hB hm; cases hB; exact h1.blk _ l hm
      · rw [if_neg e1] at hB; cases hB
  · intro i j B C l m _ hB _ hr _ _
    rw [σ2_ro _ _ _ _ hB] at hr
    cases hr
theorem calls_of {P : Program} {f : FuncId} {w : World} {us : Array Value} {avs : List AV} {σ : AHeap} {μ : Mu} (hR : Rel μ σ w) (hv : VRs μ avs us.toList) (hro : ∀ i B, σ.get i = some B → B.rw = false)
    (h : Fn P f avs σ fun x _ => x = .bool true) : Calls P f us w fun e w' => e = .returned (.bool true) ∧ Below w.heap.size w w' := by
  obtain ⟨v, σ', hc, rfl⟩ := h
  refine (hc.2.2 μ w us hR hv).mono ?_
  rintro e w' ⟨u, μ', rfl, hu, _, hs⟩
  cases hu
  exact ⟨rfl, below_of_step hs hro⟩
/-- A law of one slice of bytes. -/
theorem law1 {P : Program} {f : FuncId} {w : World} {u0 : Value} {a0 : AV} {l0 : List Int} {m0 : Option Loc} (h0 : ArgR w u0 0 a0 l0 m0)
    (h : ∀ (σ : AHeap), LsV .u8 σ a0 l0 → Fn P f [a0] σ fun x _ => x = .bool true) : Calls P f #[u0] w fun e w' => e = .returned (.bool true) ∧ Below w.heap.size w w' := by
  have h1 : ArgR w (.slice none 0 0) 1 .nils [] none := ⟨fun μ _ => .nils, fun μ loc h => (by cases h), .inl ⟨rfl, rfl⟩, fun x hx => (by cases hx)⟩
  exact calls_of (rel2 h0 h1) (VRs.cons (h0.vr _ rfl) (VRs.nil _)) (σ2_ro l0 []) (h _ (h0.ls (by show 0 < 2; omega) rfl))
/-- A law of two slices of bytes. -/
theorem law2 {P : Program} {f : FuncId} {w : World} {u0 u1 : Value} {a0 a1 : AV} {l0 l1 : List Int} {m0 m1 : Option Loc} (h0 : ArgR w u0 0 a0 l0 m0) (h1 : ArgR w u1 1 a1 l1 m1)
    (h : ∀ (σ : AHeap), LsV .u8 σ a0 l0 → LsV .u8 σ a1 l1 → Fn P f [a0, a1] σ fun x _ => x = .bool true) : Calls P f #[u0, u1] w fun e w' => e = .returned (.bool true) ∧ Below w.heap.size w w' :=
  calls_of (rel2 h0 h1) (VRs.cons (h0.vr _ rfl) (VRs.cons (h1.vr _ rfl) (VRs.nil _))) (σ2_ro l0 l1) (h _ (h0.ls (by show 0 < 2; omega) rfl) (h1.ls (by show 1 < 2; omega) rfl))
end AH
