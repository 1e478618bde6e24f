import Derived.Test.YtagihpbpblnnoaaGreatQ24
set_option linter.all false
namespace AH
open Go Go.Proofs Ho
set_option maxRecDepth 20000
set_option maxHeartbeats 16000000
theorem set_put (xs : List Int) (a x : Int) : xs.set a.toNat x = put xs a x := _root_.id rfl
theorem if_some' {α : Type} {p : Prop} [Decidable p] (x : α) (h : p) : (if p then some x else none) = some x := if_pos h
theorem if_none' {α : Type} {p : Prop} [Decidable p] (x : α) (h : ¬ p) : (if p then none else some x) = some x := if_neg h
attribute [go_sem] if_some' if_none'
/-- Not one of these blocks. -/
structure Out (y p o i e h0 h1 h2 h3 : Nat) : Prop where
  p : NE y p
  o : NE y o
  i : NE y i
  e : NE y e
  h0 : NE y h0
  h1 : NE y h1
  h2 : NE y h2
  h3 : NE y h3
/-- A slice that lies elsewhere. -/
def ApV (v : AV) (y : Nat) : Prop := bOf v ≠ y ∨ v = .nils
structure BkAp (y : Nat) (pv k0 k1 k2 k3 ov iv ev : AV) : Prop where
  p : ApV pv y
  h0 : ApV k0 y
  h1 : ApV k1 y
  h2 : ApV k2 y
  h3 : ApV k3 y
  o : ApV ov y
  i : ApV iv y
  e : ApV ev y
theorem BkV.set_ap {τ : AHeap} {b : Bk} {pv k0 k1 k2 k3 ov iv ev : AV} (h : BkV τ b pv k0 k1 k2 k3 ov iv ev) {j : Nat} {X : ABlk} (a : BkAp j pv k0 k1 k2 k3 ov iv ev) : BkV (τ.set j X) b pv k0 k1 k2 k3 ov iv ev :=
  ⟨h.p.set a.p, h.h0.set a.h0, h.h1.set a.h1, h.h2.set a.h2, h.h3.set a.h3, h.o.set a.o, h.i.set a.i, h.e.set a.e⟩
/-- What a call leaves: a book that can be read; all but its own blocks as it was. -/
def BkR (σ τ : AHeap) (p o i e h0 h1 h2 h3 : Nat) (b : Bk) (x : AV) : Prop := ∃ pv k0 k1 k2 k3 ov iv ev, x = bV b pv k0 k1 k2 k3 ov iv ev ∧ BkV τ b pv k0 k1 k2 k3 ov iv ev ∧ (∀ y, y < σ.n → Out y p o i e h0 h1 h2 h3 → τ.get y = σ.get y) ∧ σ.n ≤ τ.n ∧
  ∀ y, y < σ.n → Out y p o i e h0 h1 h2 h3 → BkAp y pv k0 k1 k2 k3 ov iv ev
/-- A callee's book in its caller, who puts it into a cell. -/
theorem BkR.up {σ σ1 τ : AHeap} {p o i e h0 h1 h2 h3 : Nat} {b : Bk} {x : AV} (h : BkR σ1 τ p o i e h0 h1 h2 h3 b x) (hq : ∀ y, y < σ.n → σ1.get y = σ.get y) (hn : σ.n ≤ σ1.n) {j : Nat} {X : ABlk} (hj : σ.n ≤ j ∧ j < σ1.n) (ho : Out j p o i e h0 h1 h2 h3) : BkR σ (τ.set j X) p o i e h0 h1 h2 h3 b x := by
  obtain ⟨pv, k0, k1, k2, k3, ov, iv, ev, rfl, hv, hf, hn2, ha⟩ := h
  refine ⟨pv, k0, k1, k2, k3, ov, iv, ev, rfl, hv.set_ap (ha j hj.2 ho), fun y hy hoy => ?_, by simp only [set_n']; omega, fun y hy hoy => ha y (by omega) hoy⟩
  rw [set_get_ne (by omega), hf y (by omega) hoy, hq y hy]
/-- A book of one's own, in another memory. -/
theorem BkO.frame {n0 : Nat} {σ τ : AHeap} {b : Bk} {p o i e h0 h1 h2 h3 : Nat} (h : BkO n0 σ b p o i e h0 h1 h2 h3) (hf : ∀ y, y < σ.n → τ.get y = σ.get y) (hn : σ.n ≤ τ.n) : BkO n0 τ b p o i e h0 h1 h2 h3 := by
  obtain ⟨lo, ⟨a1, a2, a3, a4, a5, a6, a7, a8⟩, nd, gp, go, gi, ge, g0, g1, g2, g3⟩ := h
  exact ⟨lo, by omega, nd, by rw [hf _ a1]; exact gp, by rw [hf _ a2]; exact go, by rw [hf _ a3]; exact gi, by rw [hf _ a4]; exact ge, by rw [hf _ a5]; exact g0, by rw [hf _ a6]; exact g1, by rw [hf _ a7]; exact g2, by rw [hf _ a8]; exact g3⟩
theorem BkR.mk' {σ τ : AHeap} {b : Bk} {x : AV} {p' o' i' e' h0' h1' h2' h3' : Nat} (n0 p o i e h0 h1 h2 h3 : Nat) (h : BkO n0 τ b p o i e h0 h1 h2 h3) (hx : x = bO b p o i e h0 h1 h2 h3) (hf : ∀ y, y < σ.n → Out y p' o' i' e' h0' h1' h2' h3' → τ.get y = σ.get y) (hn : σ.n ≤ τ.n)
    (hin : ∀ y, y < σ.n → Out y p' o' i' e' h0' h1' h2' h3' → Out y p o i e h0 h1 h2 h3) : BkR σ τ p' o' i' e' h0' h1' h2' h3' b x :=
  ⟨_, _, _, _, _, _, _, _, hx, h.v, hf, hn, fun y hy ho => by
    obtain ⟨a1, a2, a3, a4, a5, a6, a7, a8⟩ := hin y hy ho
    exact ⟨.inl a1.sym, .inl a5.sym, .inl a6.sym, .inl a7.sym, .inl a8.sym, .inl a2.sym, .inl a3.sym, .inl a4.sym⟩⟩
theorem BkR.r {n0 : Nat} {σ τ : AHeap} {b : Bk} {p o i e h0 h1 h2 h3 : Nat} (h : BkO n0 σ b p o i e h0 h1 h2 h3) (hf : ∀ y, y < σ.n → τ.get y = σ.get y) (hn : σ.n ≤ τ.n) : BkR σ τ p o i e h0 h1 h2 h3 b (bO b p o i e h0 h1 h2 h3) :=
  BkR.mk' n0 p o i e h0 h1 h2 h3 (h.frame hf hn) rfl (fun y hy _ => hf y hy) hn (fun _ _ h => h)
theorem zPages_fn (σ : AHeap) (b : Bk) (n0 p o i e h0 h1 h2 h3 : Nat) (slot n : Int) (hb : BkO n0 σ b p o i e h0 h1 h2 h3) (hs : BkS b) (ho : b.owner.length = b.pages.length * 8) (hl : b.pages.length ≤ 6) (hn : 1 ≤ n ∧ n ≤ 4) (hsl : 0 ≤ slot ∧ slot ≤ 10) :
    Fn Tryz.prog 232 [bO b p o i e h0 h1 h2 h3, .int .i64 slot, .int .i64 n] σ fun x τ => ∃ y cd at', x = .tup [y, .int .i64 cd, .int .i64 at'] ∧ ((runOf b.pages n < 0 ∧ cd = 2 ∧ at' = 0 ∧ BkR σ τ p o i e h0 h1 h2 h3 b y) ∨
      (0 ≤ runOf b.pages n ∧ cd = 0 ∧ at' = runOf b.pages n * 8 ∧ BkR σ τ p o i e h0 h1 h2 h3 { b with pages := fillN (put b.pages (runOf b.pages n) (8 + n)) (runOf b.pages n + 1) 7 (n.toNat - 1), owner := put b.owner (runOf b.pages n * 8) (slot + 1) } y)) := by
  refine fn_of ord0 mixed Tryz.func232 (by kernel_rfl) rfl (by kernel_rfl) ?_
  have hb' := hb
  have hv := hb.v
  have hs' := hs
  obtain ⟨lo, hi, ⟨d1, d2, d3, d4, d5, d6, d7, d8, d9, d10, d11, d12, d13, d14, d15, d16, d17, d18, d19, d20, d21, d22, d23, d24, d25, d26, d27, d28⟩, gp, go, gi, ge, g0, g1, g2, g3⟩ := hb
  obtain ⟨lo1, lo2, lo3, lo4, lo5, lo6, lo7, lo8⟩ := lo
  obtain ⟨hi1, hi2, hi3, hi4, hi5, hi6, hi7, hi8⟩ := hi
  have hr := runOf_rng b.pages n
  obtain ⟨r, hrr⟩ : ∃ r, runOf b.pages n = r := ⟨_, rfl⟩
  rw [hrr] at hr
  by_cases hr0 : r < 0
  · have hr1 : ¬ 0 ≤ r := by omega
    simp (config := {contextual := true, maxSteps := 1000000}) (disch := first | exact dB | fail) [go_sem, envOf, wrap_i64, int_lt, -Int.not_le, -Int.not_lt, Bool.decide_and, Bool.decide_or, and_assoc, Bool.and_assoc, Bool.or_assoc, Prod.exists, Prod.forall, -List.map_set, set_put, hrr, hr0, hr1]
    exact Alt.mk (BkR.r hb' (by intro y hy; rw [push_get_lt (by simp; omega), push_get_lt hy]) (by simp; omega))
  · have hr1 : ¬ (b.pages.length : Int) ≤ r := by omega
    have hr2 : 0 ≤ r := by omega
    have hr3 : r.toNat < b.pages.length := by omega
    simp (config := {contextual := true, maxSteps := 1000000}) (disch := first | exact dB | fail) [go_sem, envOf, wrap_i64, int_lt, -Int.not_le, -Int.not_lt, Bool.decide_and, Bool.decide_or, and_assoc, Bool.and_assoc, Bool.or_assoc, Prod.exists, Prod.forall, -List.map_set, set_put, hrr, hr0, hr1, hr2, gp, go]
    refine Alt.mk ?_
    refine aloops_lt (fun R_ env τ => ∃ (k : Nat), env 1 = .int .i64 slot ∧ env 2 = .int .i64 n ∧ env 3 = .ptr σ.n 0 ∧ env 6 = .ptr (σ.n + 1) 0 ∧ env 9 = .int .i64 r ∧ env 10 = .int .i64 ((k : Int) + 1) ∧ ((σ.set p ⟨(fillN (put b.pages r (8 + n)) (r + 1) 7 k).map (.int .i64), true⟩).push ⟨[.int .i64 b.slots, .sl p 0 b.pages.length 1, .sl h0 0 (b.heads 0).length 1, .sl h1 0 (b.heads 1).length 1, .sl h2 0 (b.heads 2).length 1, .sl h3 0 (b.heads 3).length 1, .sl o 0 b.owner.length 1, .sl i 0 b.inn.length 1, .sl e 0 b.epoch.length 1], true⟩).push ⟨[.int .i64 0, .nils, .nils, .nils, .nils, .nils, .nils, .nils, .nils], true⟩ = τ ∧ R_ ((n - k).toNat) ∧ ((k : Int) < n)) (by rintro R_ env τ ⟨k, e1, e2, e3, e6, e9, e10, h_, hR_, hp⟩; exact ⟨_, hR_, k, e1, e2, e3, e6, e9, e10, h_, rfl, hp⟩) ⟨0, by first | rfl | simp [put_get, *], by first | rfl | simp [put_get, *], by first | rfl | simp [put_get, *], by first | rfl | simp [put_get, *], by first | rfl | simp [put_get, *], by first | rfl | simp [put_get, *], rfl, trivial, ?_⟩ ?_
    rotate_left
    rintro m_ env τ ⟨k, e1, e2, e3, e6, e9, e10, rfl, rfl, hp⟩
    · have hlen := fillN_len (put b.pages r (8 + n)) (r + 1) 7 k
      rw [put_len'] at hlen
      have k1 : 0 ≤ r + ((k : Int) + 1) := by omega
      have hlo := ho
      simp (config := {contextual := true, maxSteps := 1000000}) (disch := first | exact dB | fail) [go_sem, envOf, wrap_i64, int_lt, -Int.not_le, -Int.not_lt, Bool.decide_and, Bool.decide_or, and_assoc, Bool.and_assoc, Bool.or_assoc, Prod.exists, Prod.forall, -List.map_set, set_put, e1, e2, e3, e6, e9, e10, hlen, k1, gp, go]
      refine ⟨fun hk => ⟨k + 1, by omega, ?_, by omega, by omega⟩, fun hk => ?_⟩
      · simp only [fillN]
        rw [show r + 1 + (k : Int) = r + ((k : Int) + 1) by omega]
      · have ek : n.toNat - 1 = k := by omega
        rw [ek]
        refine BkR.mk' n0 p o i e h0 h1 h2 h3 ⟨by omega, by simp only [push_n', set_n']; omega, ⟨d1, d2, d3, d4, d5, d6, d7, d8, d9, d10, d11, d12, d13, d14, d15, d16, d17, d18, d19, d20, d21, d22, d23, d24, d25, d26, d27, d28⟩, ?_, ?_, ?_, ?_, ?_, ?_, ?_, ?_⟩ (by simp [put_len', fillN_len]) (by first | exact cKO | fail) (by simp only [push_n', set_n']; omega) (by intro y hy ho; obtain ⟨z1, z2, z3, z4, z5, z6, z7, z8⟩ := ho; refine ⟨?_, ?_, ?_, ?_, ?_, ?_, ?_, ?_⟩ <;> first | assumption | (simp only [NE]; omega)) <;> (first | exact cGT | fail)
    · omega
end AH
/- CONTRACTS OF THE REFERENCE: a page is made one of rooms. Printed by wip/tools/bo3.py. -/
namespace AH
open Go Go.Proofs Ho
set_option maxRecDepth 20000
set_option maxHeartbeats 16000000
theorem carveL_eq (page kind : Int) (s : Nat) (hs : sz kind = s) : carveL page kind = (List.range (8 / s)).map fun (j : Nat) => page * 8 + (j : Int) * (s : Int) := by
  unfold carveL; rw [hs]; rfl
theorem NE.sw {a b : Nat} (h : NE a b) : NE b a := Ne.symm h
theorem zCarve0_fn (σ : AHeap) (b : Bk) (n0 p o i e h0 h1 h2 h3 : Nat) (page : Int) (hb : BkO n0 σ b p o i e h0 h1 h2 h3) (hs : BkS b) (hp : 0 ≤ page ∧ page < b.pages.length) (hl : b.pages.length ≤ 6) (hh : ((b.heads 0).length : Int) ≤ 1000) :
    Fn Tryz.prog 234 [bO b p o i e h0 h1 h2 h3, .int .i64 page, .int .i64 0] σ fun x τ => ∃ q, x = bO (carve b page 0) p o i e q h1 h2 h3 ∧ BkO n0 τ (carve b page 0) p o i e q h1 h2 h3 ∧ (∀ y, y < σ.n → Out y p o i e h0 h1 h2 h3 → τ.get y = σ.get y) ∧ σ.n ≤ τ.n ∧ (q = h0 ∨ σ.n ≤ q) := by
  refine fn_of ord0 mixed Tryz.func234 (by kernel_rfl) rfl (by kernel_rfl) ?_
  obtain ⟨⟨lo1, lo2, lo3, lo4, lo5, lo6, lo7, lo8⟩, ⟨hi1, hi2, hi3, hi4, hi5, hi6, hi7, hi8⟩, ⟨d1, d2, d3, d4, d5, d6, d7, d8, d9, d10, d11, d12, d13, d14, d15, d16, d17, d18, d19, d20, d21, d22, d23, d24, d25, d26, d27, d28⟩, gp, go, gi, ge, g0, g1, g2, g3⟩ := id hb
  have p1 : ¬ (b.pages.length : Int) ≤ page := by omega
  have hp1 := hp.1
  simp (config := {contextual := true, maxSteps := 1000000}) (disch := first | exact dB | fail) [go_sem, envOf, wrap_i64, int_lt, -Int.not_le, -Int.not_lt, Bool.decide_and, Bool.decide_or, and_assoc, Bool.and_assoc, Bool.or_assoc, Prod.exists, Prod.forall, -List.map_set, set_put, gp, p1, hp1]
  refine aloops_lt (fun R_ env τ => ∃ (m : Nat), ∃ (q : Nat), ∃ (l : List Int), env 7 = .int .i64 ((m : Int)) ∧ env 1 = .int .i64 page ∧ env 2 = .int .i64 0 ∧ env 3 = .ptr σ.n 0 ∧ env 6 = .ptr (σ.n + 1) 0 ∧ R_ ((9 - m)) ∧ (m * 1 ≤ 8) ∧ (q < τ.n) ∧ (l = b.heads 0 ++ (List.range m).map (fun (j : Nat) => page * 8 + (j : Int) * 1)) ∧ (τ.get q = some ⟨l.map (.int .i64), true⟩) ∧ (τ.get σ.n = some ⟨[.int .i64 b.slots, .sl p 0 b.pages.length 1, .sl q 0 l.length 1, .sl h1 0 (b.heads 1).length 1, .sl h2 0 (b.heads 2).length 1, .sl h3 0 (b.heads 3).length 1, .sl o 0 b.owner.length 1, .sl i 0 b.inn.length 1, .sl e 0 b.epoch.length 1], true⟩) ∧ (τ.get (σ.n + 1) = some ⟨[.int .i64 0, .nils, .nils, .nils, .nils, .nils, .nils, .nils, .nils], true⟩) ∧ (τ.get p = some ⟨(put b.pages page (0 + 1)).map (.int .i64), true⟩) ∧ ((∀ y, y < σ.n → NE y p → NE y h0 → τ.get y = σ.get y)) ∧ (NE p q ∧ NE o q ∧ NE i q ∧ NE e q ∧ NE h1 q ∧ NE h2 q ∧ NE h3 q) ∧ (σ.n + 2 ≤ τ.n) ∧ (NE σ.n q ∧ NE (σ.n + 1) q) ∧ (n0 ≤ q) ∧ (q = h0 ∨ σ.n ≤ q)) (by rintro R_ env τ ⟨m, q, l, e7, e1, e2, e3, e6, hR_, hm, hq, hl', gq, gb, gr, gP, hf, ne, hn, hne, hqq, hlt⟩; exact ⟨_, hR_, m, q, l, e7, e1, e2, e3, e6, rfl, hm, hq, hl', gq, gb, gr, gP, hf, ne, hn, hne, hqq, hlt⟩) ⟨0, h0, b.heads 0, by first | rfl | simp [put_get, *], by first | rfl | simp [put_get, *], by first | rfl | simp [put_get, *], by first | rfl | simp [put_get, *], by first | rfl | simp [put_get, *], trivial, ?_, ?_, ?_, ?_, ?_, ?_, ?_, ?_, ?_, ?_, ?_, ?_, ?_⟩ ?_
  rotate_left 13
  rintro m_ env τ ⟨m, q, l, e7, e1, e2, e3, e6, rfl, hm, hq, hl', gq, gb, gr, gP, hf, ne, hn, hne, hqq, hlt⟩
  · obtain ⟨ne1, ne2, ne3, ne4, ne5, ne6, ne7⟩ := ne
    obtain ⟨nf1, nf2⟩ := hne
    have hll : l.length ≤ 1010 := by rw [hl']; simp; omega
    by_cases hmd : 8 ≤ (m : Int)
    rotate_left
    · simp (config := {contextual := true, maxSteps := 1000000}) (disch := first | exact dB | fail) [go_sem, envOf, wrap_i64, int_lt, -Int.not_le, -Int.not_lt, Bool.decide_and, Bool.decide_or, and_assoc, Bool.and_assoc, Bool.or_assoc, Prod.exists, Prod.forall, -List.map_set, set_put, e7, e1, e2, e3, e6, gb, gq, hmd, sz0, sz1, sz2, sz3]
      refine Alt.mk ⟨m + 1, by omega, by omega, by omega, τ.n + 1, by omega, ?_⟩
      (repeat' refine And.intro ?_ ?_)
      all_goals first
        | omega
        | assumption
        | (simp only [NE]; omega)
        | (intro y y1 y2 y3; rw [if_neg (by rcases hlt with h | h; (rw [h]; exact NE.ne y3); omega)]; exact hf y y1 y2 y3)
        | (refine (if_pos rfl).trans ?_; rw [hl']; simp [List.range_succ]; done)
        | (rw [hl']; simp [List.range_succ]; done)
        | (rw [hl']; simp; omega)
    · have e8 : m = 8 := by omega
      subst e8
      have hC : (carve b page 0).heads 0 = l := by rw [hl']; simp [carve, setH, carveL_eq page 0 1 rfl]
      simp (config := {contextual := true, maxSteps := 1000000}) (disch := first | exact dB | fail) [go_sem, envOf, wrap_i64, int_lt, -Int.not_le, -Int.not_lt, Bool.decide_and, Bool.decide_or, and_assoc, Bool.and_assoc, Bool.or_assoc, Prod.exists, Prod.forall, -List.map_set, set_put, e7, e1, e2, e3, e6, gb, gr, hmd]
      have hfin : BkO n0 (τ.set (σ.n + 1) ⟨[.int .i64 b.slots, .sl p 0 b.pages.length 1, .sl q 0 l.length 1, .sl h1 0 (b.heads 1).length 1, .sl h2 0 (b.heads 2).length 1, .sl h3 0 (b.heads 3).length 1, .sl o 0 b.owner.length 1, .sl i 0 b.inn.length 1, .sl e 0 b.epoch.length 1], true⟩) (carve b page 0) p o i e q h1 h2 h3 :=
        ⟨by omega, by simp only [set_n']; omega, (by refine ⟨?_, ?_, ?_, ?_, ?_, ?_, ?_, ?_, ?_, ?_, ?_, ?_, ?_, ?_, ?_, ?_, ?_, ?_, ?_, ?_, ?_, ?_, ?_, ?_, ?_, ?_, ?_, ?_⟩ <;> first | assumption | exact NE.sw (by assumption) | (simp only [NE]; omega)), (set_get_ne (by omega)).trans gP, (set_get_ne (by omega)).trans ((hf o hi2 (by first | assumption | exact NE.sw (by assumption)) (by first | assumption | exact NE.sw (by assumption))).trans go), (set_get_ne (by omega)).trans ((hf i hi3 (by first | assumption | exact NE.sw (by assumption)) (by first | assumption | exact NE.sw (by assumption))).trans gi), (set_get_ne (by omega)).trans ((hf e hi4 (by first | assumption | exact NE.sw (by assumption)) (by first | assumption | exact NE.sw (by assumption))).trans ge), (set_get_ne (by first | exact NE.sym (by assumption) | exact NE.ne (by assumption))).trans (by rw [hC]; exact gq), (set_get_ne (by omega)).trans ((hf h1 hi6 (by first | assumption | exact NE.sw (by assumption)) (by first | assumption | exact NE.sw (by assumption))).trans g1), (set_get_ne (by omega)).trans ((hf h2 hi7 (by first | assumption | exact NE.sw (by assumption)) (by first | assumption | exact NE.sw (by assumption))).trans g2), (set_get_ne (by omega)).trans ((hf h3 hi8 (by first | assumption | exact NE.sw (by assumption)) (by first | assumption | exact NE.sw (by assumption))).trans g3)⟩
      have hfr : ∀ y, y < σ.n → Out y p o i e h0 h1 h2 h3 → τ.get y = σ.get y := fun y hy ho => hf y hy ho.p ho.h0
      (repeat' refine And.intro ?_ ?_)
      all_goals first
        | exact hfin
        | exact hfr
        | rfl
        | omega
        | (rw [hC]; done)
        | (simp [carve, put_len', setH]; done)
  all_goals first
    | omega
    | (simp; done)
    | (simp only [push_n', set_n']; omega)
    | (first | exact cGT | fail)
    | (intro y y1 y2 y3; (first | exact cGT | fail))
    | (refine ⟨?_, ?_, ?_, ?_, ?_, ?_, ?_⟩ <;> first | assumption | exact NE.sw (by assumption))
    | (constructor <;> (simp only [NE]; omega))
theorem zCarve1_fn (σ : AHeap) (b : Bk) (n0 p o i e h0 h1 h2 h3 : Nat) (page : Int) (hb : BkO n0 σ b p o i e h0 h1 h2 h3) (hs : BkS b) (hp : 0 ≤ page ∧ page < b.pages.length) (hl : b.pages.length ≤ 6) (hh : ((b.heads 1).length : Int) ≤ 1000) :
    Fn Tryz.prog 234 [bO b p o i e h0 h1 h2 h3, .int .i64 page, .int .i64 1] σ fun x τ => ∃ q, x = bO (carve b page 1) p o i e h0 q h2 h3 ∧ BkO n0 τ (carve b page 1) p o i e h0 q h2 h3 ∧ (∀ y, y < σ.n → Out y p o i e h0 h1 h2 h3 → τ.get y = σ.get y) ∧ σ.n ≤ τ.n ∧ (q = h1 ∨ σ.n ≤ q) := by
  refine fn_of ord0 mixed Tryz.func234 (by kernel_rfl) rfl (by kernel_rfl) ?_
  obtain ⟨⟨lo1, lo2, lo3, lo4, lo5, lo6, lo7, lo8⟩, ⟨hi1, hi2, hi3, hi4, hi5, hi6, hi7, hi8⟩, ⟨d1, d2, d3, d4, d5, d6, d7, d8, d9, d10, d11, d12, d13, d14, d15, d16, d17, d18, d19, d20, d21, d22, d23, d24, d25, d26, d27, d28⟩, gp, go, gi, ge, g0, g1, g2, g3⟩ := id hb
  have p1 : ¬ (b.pages.length : Int) ≤ page := by omega
  have hp1 := hp.1
  simp (config := {contextual := true, maxSteps := 1000000}) (disch := first | exact dB | fail) [go_sem, envOf, wrap_i64, int_lt, -Int.not_le, -Int.not_lt, Bool.decide_and, Bool.decide_or, and_assoc, Bool.and_assoc, Bool.or_assoc, Prod.exists, Prod.forall, -List.map_set, set_put, gp, p1, hp1]
  refine aloops_lt (fun R_ env τ => ∃ (m : Nat), ∃ (q : Nat), ∃ (l : List Int), env 7 = .int .i64 ((m : Int) * 2) ∧ env 1 = .int .i64 page ∧ env 2 = .int .i64 1 ∧ env 3 = .ptr σ.n 0 ∧ env 6 = .ptr (σ.n + 1) 0 ∧ R_ ((9 - m)) ∧ (m * 2 ≤ 8) ∧ (q < τ.n) ∧ (l = b.heads 1 ++ (List.range m).map (fun (j : Nat) => page * 8 + (j : Int) * 2)) ∧ (τ.get q = some ⟨l.map (.int .i64), true⟩) ∧ (τ.get σ.n = some ⟨[.int .i64 b.slots, .sl p 0 b.pages.length 1, .sl h0 0 (b.heads 0).length 1, .sl q 0 l.length 1, .sl h2 0 (b.heads 2).length 1, .sl h3 0 (b.heads 3).length 1, .sl o 0 b.owner.length 1, .sl i 0 b.inn.length 1, .sl e 0 b.epoch.length 1], true⟩) ∧ (τ.get (σ.n + 1) = some ⟨[.int .i64 0, .nils, .nils, .nils, .nils, .nils, .nils, .nils, .nils], true⟩) ∧ (τ.get p = some ⟨(put b.pages page (1 + 1)).map (.int .i64), true⟩) ∧ ((∀ y, y < σ.n → NE y p → NE y h1 → τ.get y = σ.get y)) ∧ (NE p q ∧ NE o q ∧ NE i q ∧ NE e q ∧ NE h0 q ∧ NE h2 q ∧ NE h3 q) ∧ (σ.n + 2 ≤ τ.n) ∧ (NE σ.n q ∧ NE (σ.n + 1) q) ∧ (n0 ≤ q) ∧ (q = h1 ∨ σ.n ≤ q)) (by rintro R_ env τ ⟨m, q, l, e7, e1, e2, e3, e6, hR_, hm, hq, hl', gq, gb, gr, gP, hf, ne, hn, hne, hqq, hlt⟩; exact ⟨_, hR_, m, q, l, e7, e1, e2, e3, e6, rfl, hm, hq, hl', gq, gb, gr, gP, hf, ne, hn, hne, hqq, hlt⟩) ⟨0, h1, b.heads 1, by first | rfl | simp [put_get, *], by first | rfl | simp [put_get, *], by first | rfl | simp [put_get, *], by first | rfl | simp [put_get, *], by first | rfl | simp [put_get, *], trivial, ?_, ?_, ?_, ?_, ?_, ?_, ?_, ?_, ?_, ?_, ?_, ?_, ?_⟩ ?_
  rotate_left 13
  rintro m_ env τ ⟨m, q, l, e7, e1, e2, e3, e6, rfl, hm, hq, hl', gq, gb, gr, gP, hf, ne, hn, hne, hqq, hlt⟩
  · obtain ⟨ne1, ne2, ne3, ne4, ne5, ne6, ne7⟩ := ne
    obtain ⟨nf1, nf2⟩ := hne
    have hll : l.length ≤ 1010 := by rw [hl']; simp; omega
    by_cases hmd : 8 ≤ (m : Int) * 2
    rotate_left
    · simp (config := {contextual := true, maxSteps := 1000000}) (disch := first | exact dB | fail) [go_sem, envOf, wrap_i64, int_lt, -Int.not_le, -Int.not_lt, Bool.decide_and, Bool.decide_or, and_assoc, Bool.and_assoc, Bool.or_assoc, Prod.exists, Prod.forall, -List.map_set, set_put, e7, e1, e2, e3, e6, gb, gq, hmd, sz0, sz1, sz2, sz3]
      refine Alt.mk ⟨m + 1, by omega, by omega, by omega, τ.n + 1, by omega, ?_⟩
      (repeat' refine And.intro ?_ ?_)
      all_goals first
        | omega
        | assumption
        | (simp only [NE]; omega)
        | (intro y y1 y2 y3; rw [if_neg (by rcases hlt with h | h; (rw [h]; exact NE.ne y3); omega)]; exact hf y y1 y2 y3)
        | (refine (if_pos rfl).trans ?_; rw [hl']; simp [List.range_succ]; done)
        | (rw [hl']; simp [List.range_succ]; done)
        | (rw [hl']; simp; omega)
    · have e8 : m = 4 := by omega
      subst e8
      have hC : (carve b page 1).heads 1 = l := by rw [hl']; simp [carve, setH, carveL_eq page 1 2 rfl]
      simp (config := {contextual := true, maxSteps := 1000000}) (disch := first | exact dB | fail) [go_sem, envOf, wrap_i64, int_lt, -Int.not_le, -Int.not_lt, Bool.decide_and, Bool.decide_or, and_assoc, Bool.and_assoc, Bool.or_assoc, Prod.exists, Prod.forall, -List.map_set, set_put, e7, e1, e2, e3, e6, gb, gr, hmd]
      have hfin : BkO n0 (τ.set (σ.n + 1) ⟨[.int .i64 b.slots, .sl p 0 b.pages.length 1, .sl h0 0 (b.heads 0).length 1, .sl q 0 l.length 1, .sl h2 0 (b.heads 2).length 1, .sl h3 0 (b.heads 3).length 1, .sl o 0 b.owner.length 1, .sl i 0 b.inn.length 1, .sl e 0 b.epoch.length 1], true⟩) (carve b page 1) p o i e h0 q h2 h3 :=
        ⟨by omega, by simp only [set_n']; omega, (by refine ⟨?_, ?_, ?_, ?_, ?_, ?_, ?_, ?_, ?_, ?_, ?_, ?_, ?_, ?_, ?_, ?_, ?_, ?_, ?_, ?_, ?_, ?_, ?_, ?_, ?_, ?_, ?_, ?_⟩ <;> first | assumption | exact NE.sw (by assumption) | (simp only [NE]; omega)), (set_get_ne (by omega)).trans gP, (set_get_ne (by omega)).trans ((hf o hi2 (by first | assumption | exact NE.sw (by assumption)) (by first | assumption | exact NE.sw (by assumption))).trans go), (set_get_ne (by omega)).trans ((hf i hi3 (by first | assumption | exact NE.sw (by assumption)) (by first | assumption | exact NE.sw (by assumption))).trans gi), (set_get_ne (by omega)).trans ((hf e hi4 (by first | assumption | exact NE.sw (by assumption)) (by first | assumption | exact NE.sw (by assumption))).trans ge), (set_get_ne (by omega)).trans ((hf h0 hi5 (by first | assumption | exact NE.sw (by assumption)) (by first | assumption | exact NE.sw (by assumption))).trans g0), (set_get_ne (by first | exact NE.sym (by assumption) | exact NE.ne (by assumption))).trans (by rw [hC]; exact gq), (set_get_ne (by omega)).trans ((hf h2 hi7 (by first | assumption | exact NE.sw (by assumption)) (by first | assumption | exact NE.sw (by assumption))).trans g2), (set_get_ne (by omega)).trans ((hf h3 hi8 (by first | assumption | exact NE.sw (by assumption)) (by first | assumption | exact NE.sw (by assumption))).trans g3)⟩
      have hfr : ∀ y, y < σ.n → Out y p o i e h0 h1 h2 h3 → τ.get y = σ.get y := fun y hy ho => hf y hy ho.p ho.h1
      (repeat' refine And.intro ?_ ?_)
      all_goals first
        | exact hfin
        | exact hfr
        | rfl
        | omega
        | (rw [hC]; done)
        | (simp [carve, put_len', setH]; done)
  all_goals first
    | omega
    | (simp; done)
    | (simp only [push_n', set_n']; omega)
    | (first | exact cGT | fail)
    | (intro y y1 y2 y3; (first | exact cGT | fail))
    | (refine ⟨?_, ?_, ?_, ?_, ?_, ?_, ?_⟩ <;> first | assumption | exact NE.sw (by assumption))
    | (constructor <;> (simp only [NE]; omega))
theorem zCarve2_fn (σ : AHeap) (b : Bk) (n0 p o i e h0 h1 h2 h3 : Nat) (page : Int) (hb : BkO n0 σ b p o i e h0 h1 h2 h3) (hs : BkS b) (hp : 0 ≤ page ∧ page < b.pages.length) (hl : b.pages.length ≤ 6) (hh : ((b.heads 2).length : Int) ≤ 1000) :
    Fn Tryz.prog 234 [bO b p o i e h0 h1 h2 h3, .int .i64 page, .int .i64 2] σ fun x τ => ∃ q, x = bO (carve b page 2) p o i e h0 h1 q h3 ∧ BkO n0 τ (carve b page 2) p o i e h0 h1 q h3 ∧ (∀ y, y < σ.n → Out y p o i e h0 h1 h2 h3 → τ.get y = σ.get y) ∧ σ.n ≤ τ.n ∧ (q = h2 ∨ σ.n ≤ q) := by
  refine fn_of ord0 mixed Tryz.func234 (by kernel_rfl) rfl (by kernel_rfl) ?_
  obtain ⟨⟨lo1, lo2, lo3, lo4, lo5, lo6, lo7, lo8⟩, ⟨hi1, hi2, hi3, hi4, hi5, hi6, hi7, hi8⟩, ⟨d1, d2, d3, d4, d5, d6, d7, d8, d9, d10, d11, d12, d13, d14, d15, d16, d17, d18, d19, d20, d21, d22, d23, d24, d25, d26, d27, d28⟩, gp, go, gi, ge, g0, g1, g2, g3⟩ := id hb
  have p1 : ¬ (b.pages.length : Int) ≤ page := by omega
  have hp1 := hp.1
  simp (config := {contextual := true, maxSteps := 1000000}) (disch := first | exact dB | fail) [go_sem, envOf, wrap_i64, int_lt, -Int.not_le, -Int.not_lt, Bool.decide_and, Bool.decide_or, and_assoc, Bool.and_assoc, Bool.or_assoc, Prod.exists, Prod.forall, -List.map_set, set_put, gp, p1, hp1]
  refine aloops_lt (fun R_ env τ => ∃ (m : Nat), ∃ (q : Nat), ∃ (l : List Int), env 7 = .int .i64 ((m : Int) * 4) ∧ env 1 = .int .i64 page ∧ env 2 = .int .i64 2 ∧ env 3 = .ptr σ.n 0 ∧ env 6 = .ptr (σ.n + 1) 0 ∧ R_ ((9 - m)) ∧ (m * 4 ≤ 8) ∧ (q < τ.n) ∧ (l = b.heads 2 ++ (List.range m).map (fun (j : Nat) => page * 8 + (j : Int) * 4)) ∧ (τ.get q = some ⟨l.map (.int .i64), true⟩) ∧ (τ.get σ.n = some ⟨[.int .i64 b.slots, .sl p 0 b.pages.length 1, .sl h0 0 (b.heads 0).length 1, .sl h1 0 (b.heads 1).length 1, .sl q 0 l.length 1, .sl h3 0 (b.heads 3).length 1, .sl o 0 b.owner.length 1, .sl i 0 b.inn.length 1, .sl e 0 b.epoch.length 1], true⟩) ∧ (τ.get (σ.n + 1) = some ⟨[.int .i64 0, .nils, .nils, .nils, .nils, .nils, .nils, .nils, .nils], true⟩) ∧ (τ.get p = some ⟨(put b.pages page (2 + 1)).map (.int .i64), true⟩) ∧ ((∀ y, y < σ.n → NE y p → NE y h2 → τ.get y = σ.get y)) ∧ (NE p q ∧ NE o q ∧ NE i q ∧ NE e q ∧ NE h0 q ∧ NE h1 q ∧ NE h3 q) ∧ (σ.n + 2 ≤ τ.n) ∧ (NE σ.n q ∧ NE (σ.n + 1) q) ∧ (n0 ≤ q) ∧ (q = h2 ∨ σ.n ≤ q)) (by rintro R_ env τ ⟨m, q, l, e7, e1, e2, e3, e6, hR_, hm, hq, hl', gq, gb, gr, gP, hf, ne, hn, hne, hqq, hlt⟩; exact ⟨_, hR_, m, q, l, e7, e1, e2, e3, e6, rfl, hm, hq, hl', gq, gb, gr, gP, hf, ne, hn, hne, hqq, hlt⟩) ⟨0, h2, b.heads 2, by first | rfl | simp [put_get, *], by first | rfl | simp [put_get, *], by first | rfl | simp [put_get, *], by first | rfl | simp [put_get, *], by first | rfl | simp [put_get, *], trivial, ?_, ?_, ?_, ?_, ?_, ?_, ?_, ?_, ?_, ?_, ?_, ?_, ?_⟩ ?_
  rotate_left 13
  rintro m_ env τ ⟨m, q, l, e7, e1, e2, e3, e6, rfl, hm, hq, hl', gq, gb, gr, gP, hf, ne, hn, hne, hqq, hlt⟩
  · obtain ⟨ne1, ne2, ne3, ne4, ne5, ne6, ne7⟩ := ne
    obtain ⟨nf1, nf2⟩ := hne
    have hll : l.length ≤ 1010 := by rw [hl']; simp; omega
    by_cases hmd : 8 ≤ (m : Int) * 4
    rotate_left
    · simp (config := {contextual := true, maxSteps := 1000000}) (disch := first | exact dB | fail) [go_sem, envOf, wrap_i64, int_lt, -Int.not_le, -Int.not_lt, Bool.decide_and, Bool.decide_or, and_assoc, Bool.and_assoc, Bool.or_assoc, Prod.exists, Prod.forall, -List.map_set, set_put, e7, e1, e2, e3, e6, gb, gq, hmd, sz0, sz1, sz2, sz3]
      refine Alt.mk ⟨m + 1, by omega, by omega, by omega, τ.n + 1, by omega, ?_⟩
      (repeat' refine And.intro ?_ ?_)
      all_goals first
        | omega
        | assumption
        | (simp only [NE]; omega)
        | (intro y y1 y2 y3; rw [if_neg (by rcases hlt with h | h; (rw [h]; exact NE.ne y3); omega)]; exact hf y y1 y2 y3)
        | (refine (if_pos rfl).trans ?_; rw [hl']; simp [List.range_succ]; done)
        | (rw [hl']; simp [List.range_succ]; done)
        | (rw [hl']; simp; omega)
    · have e8 : m = 2 := by omega
      subst e8
      have hC : (carve b page 2).heads 2 = l := by rw [hl']; simp [carve, setH, carveL_eq page 2 4 rfl]
      simp (config := {contextual := true, maxSteps := 1000000}) (disch := first | exact dB | fail) [go_sem, envOf, wrap_i64, int_lt, -Int.not_le, -Int.not_lt, Bool.decide_and, Bool.decide_or, and_assoc, Bool.and_assoc, Bool.or_assoc, Prod.exists, Prod.forall, -List.map_set, set_put, e7, e1, e2, e3, e6, gb, gr, hmd]
      have hfin : BkO n0 (τ.set (σ.n + 1) ⟨[.int .i64 b.slots, .sl p 0 b.pages.length 1, .sl h0 0 (b.heads 0).length 1, .sl h1 0 (b.heads 1).length 1, .sl q 0 l.length 1, .sl h3 0 (b.heads 3).length 1, .sl o 0 b.owner.length 1, .sl i 0 b.inn.length 1, .sl e 0 b.epoch.length 1], true⟩) (carve b page 2) p o i e h0 h1 q h3 :=
        ⟨by omega, by simp only [set_n']; omega, (by refine ⟨?_, ?_, ?_, ?_, ?_, ?_, ?_, ?_, ?_, ?_, ?_, ?_, ?_, ?_, ?_, ?_, ?_, ?_, ?_, ?_, ?_, ?_, ?_, ?_, ?_, ?_, ?_, ?_⟩ <;> first | assumption | exact NE.sw (by assumption) | (simp only [NE]; omega)), (set_get_ne (by omega)).trans gP, (set_get_ne (by omega)).trans ((hf o hi2 (by first | assumption | exact NE.sw (by assumption)) (by first | assumption | exact NE.sw (by assumption))).trans go), (set_get_ne (by omega)).trans ((hf i hi3 (by first | assumption | exact NE.sw (by assumption)) (by first | assumption | exact NE.sw (by assumption))).trans gi), (set_get_ne (by omega)).trans ((hf e hi4 (by first | assumption | exact NE.sw (by assumption)) (by first | assumption | exact NE.sw (by assumption))).trans ge), (set_get_ne (by omega)).trans ((hf h0 hi5 (by first | assumption | exact NE.sw (by assumption)) (by first | assumption | exact NE.sw (by assumption))).trans g0), (set_get_ne (by omega)).trans ((hf h1 hi6 (by first | assumption | exact NE.sw (by assumption)) (by first | assumption | exact NE.sw (by assumption))).trans g1), (set_get_ne (by first | exact NE.sym (by assumption) | exact NE.ne (by assumption))).trans (by rw [hC]; exact gq), (set_get_ne (by omega)).trans ((hf h3 hi8 (by first | assumption | exact NE.sw (by assumption)) (by first | assumption | exact NE.sw (by assumption))).trans g3)⟩
      have hfr : ∀ y, y < σ.n → Out y p o i e h0 h1 h2 h3 → τ.get y = σ.get y := fun y hy ho => hf y hy ho.p ho.h2
      (repeat' refine And.intro ?_ ?_)
      all_goals first
        | exact hfin
        | exact hfr
        | rfl
        | omega
        | (rw [hC]; done)
        | (simp [carve, put_len', setH]; done)
  all_goals first
    | omega
    | (simp; done)
    | (simp only [push_n', set_n']; omega)
    | (first | exact cGT | fail)
    | (intro y y1 y2 y3; (first | exact cGT | fail))
    | (refine ⟨?_, ?_, ?_, ?_, ?_, ?_, ?_⟩ <;> first | assumption | exact NE.sw (by assumption))
    | (constructor <;> (simp only [NE]; omega))
theorem zCarve3_fn (σ : AHeap) (b : Bk) (n0 p o i e h0 h1 h2 h3 : Nat) (page : Int) (hb : BkO n0 σ b p o i e h0 h1 h2 h3) (hs : BkS b) (hp : 0 ≤ page ∧ page < b.pages.length) (hl : b.pages.length ≤ 6) (hh : ((b.heads 3).length : Int) ≤ 1000) :
    Fn Tryz.prog 234 [bO b p o i e h0 h1 h2 h3, .int .i64 page, .int .i64 3] σ fun x τ => ∃ q, x = bO (carve b page 3) p o i e h0 h1 h2 q ∧ BkO n0 τ (carve b page 3) p o i e h0 h1 h2 q ∧ (∀ y, y < σ.n → Out y p o i e h0 h1 h2 h3 → τ.get y = σ.get y) ∧ σ.n ≤ τ.n ∧ (q = h3 ∨ σ.n ≤ q) := by
  refine fn_of ord0 mixed Tryz.func234 (by kernel_rfl) rfl (by kernel_rfl) ?_
  obtain ⟨⟨lo1, lo2, lo3, lo4, lo5, lo6, lo7, lo8⟩, ⟨hi1, hi2, hi3, hi4, hi5, hi6, hi7, hi8⟩, ⟨d1, d2, d3, d4, d5, d6, d7, d8, d9, d10, d11, d12, d13, d14, d15, d16, d17, d18, d19, d20, d21, d22, d23, d24, d25, d26, d27, d28⟩, gp, go, gi, ge, g0, g1, g2, g3⟩ := id hb
  have p1 : ¬ (b.pages.length : Int) ≤ page := by omega
  have hp1 := hp.1
  simp (config := {contextual := true, maxSteps := 1000000}) (disch := first | exact dB | fail) [go_sem, envOf, wrap_i64, int_lt, -Int.not_le, -Int.not_lt, Bool.decide_and, Bool.decide_or, and_assoc, Bool.and_assoc, Bool.or_assoc, Prod.exists, Prod.forall, -List.map_set, set_put, gp, p1, hp1]
  refine aloops_lt (fun R_ env τ => ∃ (m : Nat), ∃ (q : Nat), ∃ (l : List Int), env 7 = .int .i64 ((m : Int) * 8) ∧ env 1 = .int .i64 page ∧ env 2 = .int .i64 3 ∧ env 3 = .ptr σ.n 0 ∧ env 6 = .ptr (σ.n + 1) 0 ∧ R_ ((9 - m)) ∧ (m * 8 ≤ 8) ∧ (q < τ.n) ∧ (l = b.heads 3 ++ (List.range m).map (fun (j : Nat) => page * 8 + (j : Int) * 8)) ∧ (τ.get q = some ⟨l.map (.int .i64), true⟩) ∧ (τ.get σ.n = some ⟨[.int .i64 b.slots, .sl p 0 b.pages.length 1, .sl h0 0 (b.heads 0).length 1, .sl h1 0 (b.heads 1).length 1, .sl h2 0 (b.heads 2).length 1, .sl q 0 l.length 1, .sl o 0 b.owner.length 1, .sl i 0 b.inn.length 1, .sl e 0 b.epoch.length 1], true⟩) ∧ (τ.get (σ.n + 1) = some ⟨[.int .i64 0, .nils, .nils, .nils, .nils, .nils, .nils, .nils, .nils], true⟩) ∧ (τ.get p = some ⟨(put b.pages page (3 + 1)).map (.int .i64), true⟩) ∧ ((∀ y, y < σ.n → NE y p → NE y h3 → τ.get y = σ.get y)) ∧ (NE p q ∧ NE o q ∧ NE i q ∧ NE e q ∧ NE h0 q ∧ NE h1 q ∧ NE h2 q) ∧ (σ.n + 2 ≤ τ.n) ∧ (NE σ.n q ∧ NE (σ.n + 1) q) ∧ (n0 ≤ q) ∧ (q = h3 ∨ σ.n ≤ q)) (by rintro R_ env τ ⟨m, q, l, e7, e1, e2, e3, e6, hR_, hm, hq, hl', gq, gb, gr, gP, hf, ne, hn, hne, hqq, hlt⟩; exact ⟨_, hR_, m, q, l, e7, e1, e2, e3, e6, rfl, hm, hq, hl', gq, gb, gr, gP, hf, ne, hn, hne, hqq, hlt⟩) ⟨0, h3, b.heads 3, by first | rfl | simp [put_get, *], by first | rfl | simp [put_get, *], by first | rfl | simp [put_get, *], by first | rfl | simp [put_get, *], by first | rfl | simp [put_get, *], trivial, ?_, ?_, ?_, ?_, ?_, ?_, ?_, ?_, ?_, ?_, ?_, ?_, ?_⟩ ?_
  rotate_left 13
  rintro m_ env τ ⟨m, q, l, e7, e1, e2, e3, e6, rfl, hm, hq, hl', gq, gb, gr, gP, hf, ne, hn, hne, hqq, hlt⟩
  · obtain ⟨ne1, ne2, ne3, ne4, ne5, ne6, ne7⟩ := ne
    obtain ⟨nf1, nf2⟩ := hne
    have hll : l.length ≤ 1010 := by rw [hl']; simp; omega
    by_cases hmd : 8 ≤ (m : Int) * 8
    rotate_left
    · simp (config := {contextual := true, maxSteps := 1000000}) (disch := first | exact dB | fail) [go_sem, envOf, wrap_i64, int_lt, -Int.not_le, -Int.not_lt, Bool.decide_and, Bool.decide_or, and_assoc, Bool.and_assoc, Bool.or_assoc, Prod.exists, Prod.forall, -List.map_set, set_put, e7, e1, e2, e3, e6, gb, gq, hmd, sz0, sz1, sz2, sz3]
      refine Alt.mk ⟨m + 1, by omega, by omega, by omega, τ.n + 1, by omega, ?_⟩
      (repeat' refine And.intro ?_ ?_)
      all_goals first
        | omega
        | assumption
        | (simp only [NE]; omega)
        | (intro y y1 y2 y3; rw [if_neg (by rcases hlt with h | h; (rw [h]; exact NE.ne y3); omega)]; exact hf y y1 y2 y3)
        | (refine (if_pos rfl).trans ?_; rw [hl']; simp [List.range_succ]; done)
        | (rw [hl']; simp [List.range_succ]; done)
        | (rw [hl']; simp; omega)
    · have e8 : m = 1 := by omega
      subst e8
      have hC : (carve b page 3).heads 3 = l := by rw [hl']; simp [carve, setH, carveL_eq page 3 8 rfl]
      simp (config := {contextual := true, maxSteps := 1000000}) (disch := first | exact dB | fail) [go_sem, envOf, wrap_i64, int_lt, -Int.not_le, -Int.not_lt, Bool.decide_and, Bool.decide_or, and_assoc, Bool.and_assoc, Bool.or_assoc, Prod.exists, Prod.forall, -List.map_set, set_put, e7, e1, e2, e3, e6, gb, gr, hmd]
      have hfin : BkO n0 (τ.set (σ.n + 1) ⟨[.int .i64 b.slots, .sl p 0 b.pages.length 1, .sl h0 0 (b.heads 0).length 1, .sl h1 0 (b.heads 1).length 1, .sl h2 0 (b.heads 2).length 1, .sl q 0 l.length 1, .sl o 0 b.owner.length 1, .sl i 0 b.inn.length 1, .sl e 0 b.epoch.length 1], true⟩) (carve b page 3) p o i e h0 h1 h2 q :=
        ⟨by omega, by simp only [set_n']; omega, (by refine ⟨?_, ?_, ?_, ?_, ?_, ?_, ?_, ?_, ?_, ?_, ?_, ?_, ?_, ?_, ?_, ?_, ?_, ?_, ?_, ?_, ?_, ?_, ?_, ?_, ?_, ?_, ?_, ?_⟩ <;> first | assumption | exact NE.sw (by assumption) | (simp only [NE]; omega)), (set_get_ne (by omega)).trans gP, (set_get_ne (by omega)).trans ((hf o hi2 (by first | assumption | exact NE.sw (by assumption)) (by first | assumption | exact NE.sw (by assumption))).trans go), (set_get_ne (by omega)).trans ((hf i hi3 (by first | assumption | exact NE.sw (by assumption)) (by first | assumption | exact NE.sw (by assumption))).trans gi), (set_get_ne (by omega)).trans ((hf e hi4 (by first | assumption | exact NE.sw (by assumption)) (by first | assumption | exact NE.sw (by assumption))).trans ge), (set_get_ne (by omega)).trans ((hf h0 hi5 (by first | assumption | exact NE.sw (by assumption)) (by first | assumption | exact NE.sw (by assumption))).trans g0), (set_get_ne (by omega)).trans ((hf h1 hi6 (by first | assumption | exact NE.sw (by assumption)) (by first | assumption | exact NE.sw (by assumption))).trans g1), (set_get_ne (by omega)).trans ((hf h2 hi7 (by first | assumption | exact NE.sw (by assumption)) (by first | assumption | exact NE.sw (by assumption))).trans g2), (set_get_ne (by first | exact NE.sym (by assumption) | exact NE.ne (by assumption))).trans (by rw [hC]; exact gq)⟩
      have hfr : ∀ y, y < σ.n → Out y p o i e h0 h1 h2 h3 → τ.get y = σ.get y := fun y hy ho => hf y hy ho.p ho.h3
      (repeat' refine And.intro ?_ ?_)
      all_goals first
        | exact hfin
        | exact hfr
        | rfl
        | omega
        | (rw [hC]; done)
        | (simp [carve, put_len', setH]; done)
  all_goals first
    | omega
    | (simp; done)
    | (simp only [push_n', set_n']; omega)
    | (first | exact cGT | fail)
    | (intro y y1 y2 y3; (first | exact cGT | fail))
    | (refine ⟨?_, ?_, ?_, ?_, ?_, ?_, ?_⟩ <;> first | assumption | exact NE.sw (by assumption))
    | (constructor <;> (simp only [NE]; omega))
end AH
