import Derived.Test.YtagihpbpblnnoaaGreatQ04
set_option linter.all false
namespace AH
open Go
theorem Rel.old {P : Program} {μ μ' : Mu} {σ σ' : AHeap} {w w' : World} (hR : Rel μ σ w) (hR' : Rel μ' σ' w') (hm : ∀ i, i < σ.n → μ' i = μ i) (hk : Keeps σ.n σ σ') {i : Nat} {B : ABlk} {l : Loc} (hB : σ.get i = some B) (hl : μ i = some l) : BlkR μ w' B l := by
  have hi := hR.dom i l hl
  obtain ⟨arr, el, fr, b1, b2, b3, b4, b5⟩ := (hR'.blk i B l ((hk i hi).trans hB) (by rw [hm i hi]; exact hl)).ex
  refine ⟨arr, el, fr, b1, b2, b3, b4, fun j a ha => ?_⟩
  obtain ⟨y, hy, hvr⟩ := b5 j a ha
  obtain ⟨_, _, _, _, _, _, _, c5⟩ := (hR.blk i B l hB hl).ex
  obtain ⟨y0, _, hv0⟩ := c5 j a ha
  exact ⟨y, hy, hv0.transfer hm hR.dom hvr⟩
/-- The new list alone is kept, as one new block. -/
theorem ACall.fresh {P : Program} {f : FuncId} {args : List AV} {σ σ' : AHeap} {j k n : Nat} {B : ABlk} (h : ACall P f args σ (.sl j k n 1) σ') (hk : Keeps σ.n σ σ') (hj : σ.n ≤ j) (hB : σ'.get j = some B) (hrw : B.rw = true)
    (hlen : k + n ≤ B.cells.length) (hlt : AV.lts σ.n ((B.cells.drop k).take n) = true) : ACall P f args σ (.sl σ.n 0 n 1) (σ.push ⟨(B.cells.drop k).take n, true⟩) := by
  refine ⟨h.1, by simp, fun μ w us hR hus => (h.2.2 μ w us hR hus).mono ?_⟩
  rintro e w' ⟨u, μ', rfl, hvu, hR', hS⟩
  have hm : ∀ i, i < σ.n → μ' i = μ i := hS.ext
  cases hvu with
  | sl _ _ _ _ cap l off hl hn ho =>
    have hbj := hR'.blk j B l hB hl
    obtain ⟨arr, el, fr, b1, b2, b3, b4, b5⟩ := hbj.ex
    have hsub : ∀ b o, (⟨l.b, l.o + k, l.c - k⟩ : Loc).has b o → l.has b o := by
      rintro b o ⟨h1, h2, h3⟩
      dsimp only at h1 h2 h3
      exact ⟨h1, by omega, by omega⟩
    let μ2 : Mu := fun i => if i = σ.n then some ⟨l.b, l.o + k, l.c - k⟩ else μ i
    have hnew : μ2 σ.n = some ⟨l.b, l.o + k, l.c - k⟩ := if_pos rfl
    have hold : ∀ i, i ≠ σ.n → μ2 i = μ i := fun i hi => if_neg hi
    have hmono : ∀ i l, μ i = some l → μ2 i = some l := fun i l' h' => by
      have := hR.dom i l' h'
      rw [hold i (by omega)]; exact h'
    have hR2 : Rel μ2 (σ.push ⟨(B.cells.drop k).take n, true⟩) w' := by
      refine ⟨?_, ?_, ?_⟩
      · intro i l' hl'
        by_cases e : i = σ.n
        · simp [e]
        · rw [hold i e] at hl'; have := hR.dom i l' hl'; simp; omega
      · intro i C l' hC hl'
        by_cases e : i = σ.n
        · subst e
          rw [hnew] at hl'; cases hl'
          rw [AHeap.push_get, if_pos rfl] at hC; cases hC
          refine ⟨arr, el, fr, b1, by dsimp only; omega, by simp; omega, fun _ => b4 hrw, fun q a ha => ?_⟩
          have ha' := ha
          dsimp only at ha
          rw [List.getElem?_take] at ha
          split at ha
          · rw [List.getElem?_drop] at ha
            obtain ⟨y, hy, hvr⟩ := b5 (k + q) a ha
            refine ⟨y, by rw [← hy]; congr 1; dsimp only; omega, (hvr.restrict hm (lts_get hlt q a ha')).mono hmono⟩
          · cases ha
        · rw [hold i e] at hl'
          have hi := hR.dom i l' hl'
          rw [push_get_lt hi] at hC
          exact (Rel.old (P := P) hR hR' hm hk hC hl').mono hmono
      · intro i q C D l1 l2 hiq hC hD hCrw hl1 hl2
        by_cases e : i = σ.n
        · subst e
          rw [hnew] at hl1; cases hl1
          rw [hold q (Ne.symm hiq)] at hl2
          have hq := hR.dom q l2 hl2
          rw [push_get_lt hq] at hD
          have := hR'.sep j q B D l l2 (by omega) hB ((hk q hq).trans hD) hrw hl (by rw [hm q hq]; exact hl2)
          exact fun b o h1 h2 => this b o (hsub b o h1) h2
        · rw [hold i e] at hl1
          have hi := hR.dom i l1 hl1
          rw [push_get_lt hi] at hC
          by_cases e' : q = σ.n
          · subst e'
            rw [hnew] at hl2; cases hl2
            have := hR'.sep i j C B l1 l (by omega) ((hk i hi).trans hC) hB hCrw (by rw [hm i hi]; exact hl1) hl
            exact fun b o h1 h2 => this b o h1 (hsub b o h2)
          · rw [hold q e'] at hl2
            have hq := hR.dom q l2 hl2
            rw [push_get_lt hq] at hD
            exact hR'.sep i q C D l1 l2 hiq ((hk i hi).trans hC) ((hk q hq).trans hD) hCrw (by rw [hm i hi]; exact hl1) (by rw [hm q hq]; exact hl2)
    refine ⟨_, μ2, rfl, VR.sl σ.n 0 n 1 cap ⟨l.b, l.o + k, l.c - k⟩ off hnew hn ?_, hR2, ?_⟩
    · rcases ho with ⟨h1, h2⟩ | h1
      · left; constructor <;> simp only [Nat.add_zero, Nat.zero_add] <;> omega
      · exact .inr h1
    · refine ⟨hS.os, hS.tape, hS.output, hS.size, by simp, fun i hi => hold i (by omega), ?_, hS.cells, ?_, ?_, hS.other⟩
      · rintro b o hb ⟨i, C, l', hC, hCrw, hl', hh⟩
        by_cases e : i = σ.n
        · subst e
          rw [hnew] at hl'; cases hl'
          exact hS.terr b o hb ⟨j, B, l, hB, hrw, hl, hsub b o hh⟩
        · rw [hold i e] at hl'
          have hi := hR.dom i l' hl'
          rw [push_get_lt hi] at hC
          exact hS.terr b o hb ⟨i, C, l', (hk i hi).trans hC, hCrw, by rw [hm i hi]; exact hl', hh⟩
      · intro i C hi hC hr
        rw [push_get_lt hi] at hC
        exact ⟨C, hC, hr⟩
      · intro i C h1 h2 hC
        have : i = σ.n := by simp at h2; omega
        rw [AHeap.push_get, if_pos this] at hC
        cases hC; rfl
theorem fn_fresh {P : Program} {f : FuncId} {fn : Func} {c : Code} {args : List AV} {σ : AHeap} {xs : List AV} (ord : Nat → DOrd) (hm : P.follows .mixedOrders = true)
    (hf : P.funcs[f]? = some fn) (hn : (fn.name == "runtime.NumGoroutine") = false) (hb : fn.body = some c) (hok : (codeOk fn.ntmps ord c && decide (args.length ≤ fn.ntmps)) = true) (hx : AV.lts σ.n xs = true)
    (h : wpc P ord c (aresK P fn.results.toList fun x τ => Keeps σ.n σ τ ∧ ∃ j k B, x = .sl j k xs.length 1 ∧ σ.n ≤ j ∧ τ.get j = some B ∧ B.rw = true ∧ k + xs.length ≤ B.cells.length ∧ (B.cells.drop k).take xs.length = xs) (envOf args) σ) :
    Fn P f args σ fun x τ => x = .sl σ.n 0 xs.length 1 ∧ τ = σ.push ⟨xs, true⟩ := by
  obtain ⟨x, τ, hc, hk, j, k, B, rfl, hj, hB, hrw, hlen, he⟩ := fn_of ord hm hf hn hb hok h
  have := hc.fresh hk hj hB hrw hlen (by rw [he]; exact hx)
  rw [he] at this
  exact ⟨_, _, this, rfl, rfl⟩
end AH
/- THE ABSTRACT MACHINE: what a call has made, under new names: a call's result in a memory that is told exactly. -/
namespace AH
open Go
/-- 'a'' is 'a', its blocks renamed: the block n + t is the part of block j from cell k on, where ps t = (j, k). -/
inductive RV (ps : List (Nat × Nat)) (n : Nat) : AV → AV → Prop
  | same (a : AV) (h : a.lt n = true) : RV ps n a a
  | sl (t j k k' c e : Nat) (h : ps[t]? = some (j, k)) : RV ps n (.sl (n + t) k' c e) (.sl j (k + k') c e)
  | ptr (t j k k' : Nat) (h : ps[t]? = some (j, k)) : RV ps n (.ptr (n + t) k') (.ptr j (k + k'))
  | agg (as bs : List AV) (hl : as.length = bs.length) (h : ∀ (q : Nat) (a b : AV), as[q]? = some a → bs[q]? = some b → RV ps n a b) : RV ps n (.agg as) (.agg bs)
  | tup (as bs : List AV) (hl : as.length = bs.length) (h : ∀ (q : Nat) (a b : AV), as[q]? = some a → bs[q]? = some b → RV ps n a b) : RV ps n (.tup as) (.tup bs)
def muOf (μ μ' : Mu) (n : Nat) (ps : List (Nat × Nat)) : Mu := fun i => if i < n then μ i else
  match ps[i - n]? with
  | some (j, k) => (μ' j).map fun l => ⟨l.b, l.o + k, l.c - k⟩
  | none => none
theorem RV.vr {ps : List (Nat × Nat)} {n : Nat} {μ μ' : Mu} (hm : ∀ i, i < n → μ' i = μ i) (hk : ∀ (t j k : Nat) (l : Loc), ps[t]? = some (j, k) → μ' j = some l → k ≤ l.c) {a' a : AV} (h : RV ps n a' a) :
    ∀ {u : Value}, VR μ' a u → VR (muOf μ μ' n ps) a' u := by
  have hold : ∀ i l, i < n → μ i = some l → muOf μ μ' n ps i = some l := fun i l hi hl => by unfold muOf; rw [if_pos hi]; exact hl
  have hnew : ∀ (t j k : Nat) (l : Loc), ps[t]? = some (j, k) → μ' j = some l → muOf μ μ' n ps (n + t) = some ⟨l.b, l.o + k, l.c - k⟩ := by
    intro t j k l h1 h2
    unfold muOf
    rw [if_neg (by omega), show n + t - n = t by omega, h1]
    simp [h2]
  induction h with
  | same a ha =>
    intro u hu
    have h1 : VR μ a u := hu.restrict hm ha
    have key : ∀ {a : AV} {u : Value}, VR μ a u → a.lt n = true → VR (muOf μ μ' n ps) a u := by
      intro a u h
      induction h with
      | bool b => exact fun _ => .bool b
      | int k n => exact fun _ => .int k n
      | str s => exact fun _ => .str s
      | ptr i k l hl => intro hlt; simp only [AV.lt, decide_eq_true_eq] at hlt; exact .ptr i k l (hold i l hlt hl)
      | nilp => exact fun _ => .nilp
      | sl i k m e cap l off hl hn ho => intro hlt; simp only [AV.lt, decide_eq_true_eq] at hlt; exact .sl i k m e cap l off (hold i l hlt hl) hn ho
      | nils => exact fun _ => .nils
      | fn f xs ys us vs hx hy h h' ih ih' =>
        intro hlt
        simp only [AV.lt, Bool.and_eq_true] at hlt
        exact .fn f xs ys us vs hx hy (fun j a u ha hu => ih j a u ha hu (lts_get hlt.1 j a ha)) (fun j a u ha hu => ih' j a u ha hu (lts_get hlt.2 j a ha))
      | nilfn => exact fun _ => .nilfn
      | iface t a u h ih => intro hlt; simp only [AV.lt] at hlt; exact .iface t a u (ih hlt)
      | nilif => exact fun _ => .nilif
      | agg cs us hl h ih => intro hlt; simp only [AV.lt] at hlt; exact .agg cs us hl fun j a u ha hu => ih j a u ha hu (lts_get hlt j a ha)
      | tup cs us hl h ih => intro hlt; simp only [AV.lt] at hlt; exact .tup cs us hl fun j a u ha hu => ih j a u ha hu (lts_get hlt j a ha)
      | undef u => exact fun _ => .undef u
    exact key h1 ha
  | sl t j k k' c e h =>
    intro u hu
    cases hu with
    | sl _ _ _ _ cap l off hl hn ho =>
      have := hk t j k l h hl
      refine .sl (n + t) k' c e cap ⟨l.b, l.o + k, l.c - k⟩ off (hnew t j k l h hl) hn ?_
      rcases ho with ⟨h1, h2⟩ | h1
      · left; dsimp only; omega
      · exact .inr h1
  | ptr t j k k' h =>
    intro u hu
    cases hu with
    | ptr _ _ l hl =>
      have := VR.ptr (μ := muOf μ μ' n ps) (n + t) k' ⟨l.b, l.o + k, l.c - k⟩ (hnew t j k l h hl)
      rw [← Nat.add_assoc]
      exact this
  | agg as bs hl h ih =>
    intro u hu
    cases hu with
    | agg _ us hl' h' =>
      refine .agg as us (hl.trans hl') fun q a u ha hu => ?_
      have hq : q < bs.length := by rw [← hl]; exact (List.getElem?_eq_some_iff.1 ha).1
      exact ih q a bs[q] ha (List.getElem?_eq_getElem hq) (h' q bs[q] u (List.getElem?_eq_getElem hq) hu)
  | tup as bs hl h ih =>
    intro u hu
    cases hu with
    | tup _ us hl' h' =>
      refine .tup as us (hl.trans hl') fun q a u ha hu => ?_
      have hq : q < bs.length := by rw [← hl]; exact (List.getElem?_eq_some_iff.1 ha).1
      exact ih q a bs[q] ha (List.getElem?_eq_getElem hq) (h' q bs[q] u (List.getElem?_eq_getElem hq) hu)
/-- An old block, behind a call: as it was, or its cells renamed. -/
def OldB (ps : List (Nat × Nat)) (n : Nat) (was now new : Option ABlk) : Prop :=
  (new = was ∧ now = was) ∨ (new = none) ∨ ∃ B C D, now = some B ∧ new = some C ∧ was = some D ∧ C.rw = B.rw ∧ C.cells.length = B.cells.length ∧
    ∀ (q : Nat) (a' : AV), C.cells[q]? = some a' → ∃ a, B.cells[q]? = some a ∧ (RV ps n a' a ∨ (a' = a ∧ a ∈ D.cells))
theorem ACall.canon {P : Program} {f : FuncId} {args : List AV} {σ σ' τ : AHeap} {v v' : AV} (h : ACall P f args σ v σ') (ps : List (Nat × Nat)) (hn : τ.n = σ.n + ps.length)
    (hold : ∀ i, i < σ.n → OldB ps σ.n (σ.get i) (σ'.get i) (τ.get i))
    (hnew : ∀ (t j k : Nat), ps[t]? = some (j, k) → σ.n ≤ j ∧ ∃ B C, σ'.get j = some B ∧ B.rw = true ∧ τ.get (σ.n + t) = some C ∧ C.rw = true ∧ k + C.cells.length ≤ B.cells.length ∧
      ∀ (q : Nat) (a' : AV), C.cells[q]? = some a' → ∃ a, B.cells[k + q]? = some a ∧ RV ps σ.n a' a)
    (hinj : ∀ (t t' j k k' : Nat), ps[t]? = some (j, k) → ps[t']? = some (j, k') → t = t') (hv : RV ps σ.n v' v) : ACall P f args σ v' τ := by
  refine ⟨h.1, by omega, fun μ w us hR hus => (h.2.2 μ w us hR hus).mono ?_⟩
  rintro e w' ⟨u, μ', rfl, hvu, hR', hS⟩
  have hm : ∀ i, i < σ.n → μ' i = μ i := hS.ext
  have hkc : ∀ (t j k : Nat) (l : Loc), ps[t]? = some (j, k) → μ' j = some l → k ≤ l.c := by
    intro t j k l h1 h2
    obtain ⟨_, B, C, hB, _, _, _, hlen, _⟩ := hnew t j k h1
    obtain ⟨arr, el, fr, _, _, b3, _⟩ := (hR'.blk j B l hB h2).ex
    omega
  have mo : ∀ i l, i < σ.n → (muOf μ μ' σ.n ps i = some l ↔ μ i = some l) := fun i l hi => by unfold muOf; rw [if_pos hi]
  have mn : ∀ t l', muOf μ μ' σ.n ps (σ.n + t) = some l' → ∃ j k l, ps[t]? = some (j, k) ∧ μ' j = some l ∧ l' = ⟨l.b, l.o + k, l.c - k⟩ := by
    intro t l' hl'
    unfold muOf at hl'
    rw [if_neg (by omega), show σ.n + t - σ.n = t by omega] at hl'
    split at hl'
    next j k hps =>
      cases hq : μ' j with
      | none => rw [hq] at hl'; cases hl'
      | some l => rw [hq] at hl'; cases hl'; exact ⟨j, k, l, hps, hq, rfl⟩
    next => cases hl'
  have hsub : ∀ (l : Loc) (k b o : Nat), k ≤ l.c → (⟨l.b, l.o + k, l.c - k⟩ : Loc).has b o → l.has b o := by
    rintro l k b o hk ⟨h1, h2, h3⟩
    dsimp only at h1 h2 h3
    exact ⟨h1, by omega, by omega⟩
  -- each block of the new memory is a part of one of the old one
  have part : ∀ i C l', τ.get i = some C → muOf μ μ' σ.n ps i = some l' → ∃ j B l, σ'.get j = some B ∧ μ' j = some l ∧ B.rw = C.rw ∧ (∀ b o, l'.has b o → l.has b o) ∧ (i < σ.n → j = i) ∧ (σ.n ≤ i → ∃ k, ps[i - σ.n]? = some (j, k) ∧ σ.n ≤ j) := by
    intro i C l' hC hl'
    by_cases hi : i < σ.n
    · have hl := (mo i l' hi).1 hl'
      rcases hold i hi with ⟨h1, h2⟩ | h1 | ⟨B, C', D, h1, h2, h3, h4, h5, h6⟩
      · exact ⟨i, C, l', by rw [h2, ← h1]; exact hC, by rw [hm i hi]; exact hl, rfl, fun _ _ h => h, fun _ => rfl, fun h => by omega⟩
      · rw [h1] at hC; cases hC
      · rw [h2] at hC; cases hC
        exact ⟨i, B, l', h1, by rw [hm i hi]; exact hl, h4.symm, fun _ _ h => h, fun _ => rfl, fun h => by omega⟩
    · obtain ⟨t, rfl⟩ : ∃ t, i = σ.n + t := ⟨i - σ.n, by omega⟩
      obtain ⟨j, k, l, hps, hl, rfl⟩ := mn t l' hl'
      obtain ⟨hj, B, C', hB, hBrw, hC', hCrw, hlen, _⟩ := hnew t j k hps
      rw [hC] at hC'; cases hC'
      exact ⟨j, B, l, hB, hl, by rw [hBrw, hCrw], fun b o => hsub l k b o (hkc t j k l hps hl), fun h => by omega, fun _ => ⟨k, by rw [show σ.n + t - σ.n = t by omega]; exact hps, hj⟩⟩
  have hR2 : Rel (muOf μ μ' σ.n ps) τ w' := by
    refine ⟨?_, ?_, ?_⟩
    · intro i l hl
      by_cases hi : i < σ.n
      · omega
      · obtain ⟨t, rfl⟩ : ∃ t, i = σ.n + t := ⟨i - σ.n, by omega⟩
        obtain ⟨j, k, l, hps, _⟩ := mn t l hl
        have := (List.getElem?_eq_some_iff.1 hps).1
        omega
    · intro i C l' hC hl'
      by_cases hi : i < σ.n
      · have hl := (mo i l' hi).1 hl'
        have hl2 : μ' i = some l' := by rw [hm i hi]; exact hl
        have lift : ∀ {a : AV} {u : Value}, VR μ a u → VR (muOf μ μ' σ.n ps) a u := fun hh => hh.mono fun i l hl => (mo i l (hR.dom i l hl)).2 hl
        rcases hold i hi with ⟨h1, h2⟩ | h1 | ⟨B, C', D, h1, h2, h3, h4, h5, h6⟩
        · have hCs : σ.get i = some C := by rw [← h1]; exact hC
          obtain ⟨arr, el, fr, b1, b2, b3, b4, b5⟩ := (hR'.blk i C l' (by rw [h2]; exact hCs) hl2).ex
          refine ⟨arr, el, fr, b1, b2, b3, b4, fun q a ha => ?_⟩
          obtain ⟨y, hy, hvr⟩ := b5 q a ha
          obtain ⟨_, _, _, _, _, _, _, c5⟩ := (hR.blk i C l' hCs hl).ex
          obtain ⟨y0, _, hv0⟩ := c5 q a ha
          exact ⟨y, hy, lift (hv0.transfer hm hR.dom hvr)⟩
        · rw [h1] at hC; cases hC
        · rw [h2] at hC; cases hC
          obtain ⟨arr, el, fr, b1, b2, b3, b4, b5⟩ := (hR'.blk i B l' h1 hl2).ex
          refine ⟨arr, el, fr, b1, b2, by omega, fun hrw => b4 (by rw [← h4]; exact hrw), fun q a' ha' => ?_⟩
          obtain ⟨a, ha, hor⟩ := h6 q a' ha'
          obtain ⟨y, hy, hvr⟩ := b5 q a ha
          refine ⟨y, hy, ?_⟩
          rcases hor with hrv | ⟨rfl, hmem⟩
          · exact hrv.vr hm hkc hvr
          · obtain ⟨q', hq'⟩ := List.mem_iff_getElem?.1 hmem
            obtain ⟨_, _, _, _, _, _, _, c5⟩ := (hR.blk i D l' h3 hl).ex
            obtain ⟨y0, _, hv0⟩ := c5 q' _ hq'
            exact lift (hv0.transfer hm hR.dom hvr)
      · obtain ⟨t, rfl⟩ : ∃ t, i = σ.n + t := ⟨i - σ.n, by omega⟩
        obtain ⟨j, k, l, hps, hl, rfl⟩ := mn t l' hl'
        obtain ⟨hj, B, C', hB, hBrw, hC', hCrw, hlen, hcells⟩ := hnew t j k hps
        rw [hC] at hC'; cases hC'
        obtain ⟨arr, el, fr, b1, b2, b3, b4, b5⟩ := (hR'.blk j B l hB hl).ex
        refine ⟨arr, el, fr, b1, by dsimp only; omega, by dsimp only; omega, fun _ => b4 hBrw, fun q a' ha' => ?_⟩
        obtain ⟨a, ha, hrv⟩ := hcells q a' ha'
        obtain ⟨y, hy, hvr⟩ := b5 (k + q) a ha
        exact ⟨y, by rw [← hy]; congr 1; dsimp only; omega, hrv.vr hm hkc hvr⟩
    · intro i i2 C C2 l1 l2 hne hC hC2 hrw hl1 hl2
      obtain ⟨j, B, m1, hB, hm1, hr1, hs1, ho1, hn1⟩ := part i C l1 hC hl1
      obtain ⟨j2, B2, m2, hB2, hm2, hr2, hs2, ho2, hn2⟩ := part i2 C2 l2 hC2 hl2
      have hjj : j ≠ j2 := by
        intro e
        by_cases hi : i < σ.n
        · have := ho1 hi
          by_cases hi2 : i2 < σ.n
          · have := ho2 hi2; omega
          · obtain ⟨_, _, _⟩ := hn2 (by omega); omega
        · obtain ⟨k, hk, hjn⟩ := hn1 (by omega)
          by_cases hi2 : i2 < σ.n
          · have := ho2 hi2; omega
          · obtain ⟨k2, hk2, _⟩ := hn2 (by omega)
            rw [← e] at hk2
            have := hinj _ _ _ _ _ hk hk2
            omega
      have := hR'.sep j j2 B B2 m1 m2 hjj hB hB2 (by rw [hr1]; exact hrw) hm1 hm2
      exact fun b o h1 h2 => this b o (hs1 b o h1) (hs2 b o h2)
  refine ⟨u, muOf μ μ' σ.n ps, rfl, hv.vr hm hkc hvu, hR2, ?_⟩
  refine ⟨hS.os, hS.tape, hS.output, hS.size, by omega, fun i hi => by unfold muOf; rw [if_pos hi], ?_, hS.cells, ?_, ?_, hS.other⟩
  · rintro b o hb ⟨i, C, l', hC, hCrw, hl', hh⟩
    obtain ⟨j, B, l, hB, hl, hr, hs, _⟩ := part i C l' hC hl'
    exact hS.terr b o hb ⟨j, B, l, hB, by rw [hr]; exact hCrw, hl, hs b o hh⟩
  · intro i C hi hC hr
    rcases hold i hi with ⟨h1, h2⟩ | h1 | ⟨B, C', D, h1, h2, h3, h4, h5, h6⟩
    · exact ⟨C, by rw [← h1]; exact hC, hr⟩
    · rw [h1] at hC; cases hC
    · rw [h2] at hC; cases hC
      exact hS.ro i B hi h1 (by rw [← h4]; exact hr)
  · intro i C h1 h2 hC
    obtain ⟨t, rfl⟩ : ∃ t, i = σ.n + t := ⟨i - σ.n, by omega⟩
    have ht : t < ps.length := by omega
    obtain ⟨_, _, C', _, _, hC', hCrw, _⟩ := hnew t ps[t].1 ps[t].2 (by rw [List.getElem?_eq_getElem ht])
    rw [hC] at hC'; cases hC'; exact hCrw
end AH
